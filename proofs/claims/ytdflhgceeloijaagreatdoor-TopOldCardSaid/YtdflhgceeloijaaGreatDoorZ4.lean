import Derived.Test.YtdflhgceeloijaaGreatDoorZ1
import Derived.Test.YtdflhgceeloijaaGreatDoorZ2
import Derived.Test.YtdflhgceeloijaaGreatDoorZ3
import Derived.Lib.Builder
import Derived.Lib.AppendStr
import Derived.Lib.UnsafeStr
import Derived.Laws.Externs
import Derived.Lib.MinMax
set_option linter.all false
set_option maxRecDepth 100000
set_option maxHeartbeats 16000000
namespace Go.Proofs.YtdflhgceeloijaaGreatDoor
open Go Go.RowKit Tryz
open Tryz renaming prog→zP
open Go renaming World→Qm,Value→Qn,Calls→Qo,TypeId→Qp,Ending→Qq
open Go.RowKit renaming Below→Qr,Hid→Qs
def gL{w:Qm}{a:Option Addr}{n c:Nat}{l:List WV}(g:aB 3 WV.cells w (.slice a n c) l){j:Nat}{x:WV}(h:l[j]?=some x): ∃b o,a=some ⟨b,o,none⟩/\b<w.heap.size/\w.cell? ⟨b,o+j*3,none⟩=some (.string x.text)/\w.cell? ⟨b,o+j*3+1,none⟩=some (.int .i64 x.line)/\w.cell? ⟨b,o+j*3+2,none⟩=some (.int .i64 x.col):=by
 obtain⟨b,o,e,f,d⟩:=g.elem (λ_=>rfl) h;exact⟨b,o,e,f,d 0 _ rfl,d 1 _ rfl,d 2 _ rfl⟩
def jS{w:Qm}{v:Qn}{x y:WV}{r:List WV}(d:aB 3 WV.cells w v (x::y::r))(q:Qs (eG y.text=true)):Qo zP 325 #[v,x.text] w (aK w (.tuple #[(iq y.text:Int),true])):=by
 obtain⟨a,c,rfl,i,_⟩:=id d;obtain⟨b,o,rfl,s,f,t,u⟩:=gL d (j:=0) rfl;obtain⟨_,_,e,_,k,A,B⟩:=gL d (j:=1) rfl;injection e with e;injection e with l m;subst l m
 rw[Ox,NR] at f;rw[Nat.one_mul] at k;have p:2<=(x::y::r).length:=zm;obtain⟨n,g⟩:=zx ((x::y::r).length);rw[<-g] at p⊢;clear d i g;go_enter func325,ntmps325;go_wp2_with fail;refine zb (jd y.text w q) λC h=>?_
 have f:=ae f h;go_wp2;go_ret2;exact⟨rfl,h⟩
structure ir(w:Qm)(B q p:Nat)(nm:ByteArray)(acc:List ah)(k:Nat)(l:List WV)(v v0:Qn):Prop where
 row:w.heap[q]?=some (.cells #[.pointer (some ⟨p,0,none⟩),.string nm,v] 318)
 own:w.ownsRow B 116 4 v acc.length (acc.flatMap ah.cells)
 wrow:w.heap[p]?=some (.cells #[.int .i64 k,v0] 413)
 words:aB 3 WV.cells w v0 l
 apart: ∀b,aD v0 b->b≠p/\b<B/\b≠q
 ne:q≠p/\q<B/\p<B
 k_le:k<=l.length/\l.length<=100000000
 B_le:B<=w.heap.size
section
variable{w w':Qm}{B q p k:Nat}{nm:ByteArray}{acc:List ah}{l:List WV}{v v0:Qn}
def ir.ws(a:ir w B q p nm acc k l v v0):gq w p k l:=⟨v0,a.wrow,a.words,λb c=>(a.apart b c).1,a.k_le.1,a.k_le.2⟩
def ir.below(a:ir w B q p nm acc k l v v0)(c:Qr w.heap.size w w'):ir w' B q p nm acc k l v v0:=
 ⟨ab a.row c,aS a.own c,ab a.wrow c,a.words.below c,a.apart,a.ne,a.k_le,Nq a.B_le c.size⟩
def ir.line{f:Nat}(a:ir w B q p nm acc k l v v0)(d:Ch (·=p) w w')(m: ∃c,w.heap[p]?=some (.cells #[(k:Int),c] 413)/\w'.heap[p]?=some (.cells #[(f:Int),c] 413))(n:f<=l.length):ir w' B q p nm acc f l v v0:=by
 obtain⟨c,h,i⟩:=m;obtain rfl:c=v0:=by have:=h.symm.trans a.wrow;simp only[OF,Obj.cells.injEq,PH,Pp] at this;exact this.1.2.1
 have j:=a.ne;exact⟨d.keep a.row j.1,fo a.own d (λb g e=>by subst e;omega),i,a.words.ch d (λb g=>(a.apart b g).1),a.apart,a.ne,⟨n,a.k_le.2⟩,Nq a.B_le d.size⟩
def ir.put{i:Nat}{y v':Qn}{f:ByteArray}{acc':List ah}(a:ir w B q p nm acc k l v v0)(h:(#[.pointer (some ⟨p,0,none⟩),.string nm,v]:Array Qn).setIfInBounds i y=#[.pointer (some ⟨p,0,none⟩),.string f,v'])(j:w.ownsRow B 116 4 v' acc'.length (acc'.flatMap ah.cells)):ir (w.setCell ⟨q,i,none⟩ y) B q p f acc' k l v' v0:=by
 have g:=a.ne;have c:Ch (·=q) w (w.setCell ⟨q,i,none⟩ y):=aP (Ch.refl _ _) (.inl rfl);refine⟨by rw[al a.row,h],?_,(af _ g.1.symm).trans a.wrow,a.words.ch c (λb d=>(a.apart b d).2.2),a.apart,a.ne,a.k_le,by simpa using a.B_le⟩;exact fo j c (λb d e=>by subst e;omega)
def ir.grow{v':Qn}{acc':List ah}(a:ir w B q p nm acc k l v v0)(c: ∀k,k<w.heap.size->v.ownBlock≠some k->w'.heap[k]?=w.heap[k]?)(m:w.heap.size<=w'.heap.size)(n:w'.ownsRow B 116 4 v' acc'.length (acc'.flatMap ah.cells)):ir (w'.setCell ⟨q,2,none⟩ v') B q p nm acc' k l v' v0:=by
 have d:=a.ne;have o:=a.B_le;have f: ∀k,k<B->v.ownBlock≠some k:=λk r e=>by have:=(World.ownsRow.lt a.own k e).1;omega
 have g:Ch (·=q) w' (w'.setCell ⟨q,2,none⟩ v'):=aP (Ch.refl _ _) (.inl rfl);have h:aB 3 WV.cells w' v0 l:=a.words.step m λb i j=>c b j (f b (a.apart b i).2.1)
 refine⟨by rw[al ((c q zo (f q d.2.1)).trans a.row)];rfl,fo n g (λb c e=>by subst e;omega),(af _ d.1.symm).trans ((c p zo (f p d.2.2)).trans a.wrow),h.ch g (λb c=>(a.apart b c).2.2),a.apart,a.ne,a.k_le,?_⟩;simp;omega
end
def Ml(B q p b:Nat):Prop:=b=q\/b=p\/B<=b
def Lg(w:Qm)(B q p:Nat)(nm:ByteArray)(acc:List ah)(k:Nat)(l:List WV)(v v0:Qn)(e:Qq)(w':Qm):Prop:=e= .returned (.bool true)/\Qs (ir w' B q p nm acc k l v v0)/\Qs (Ch (Ml B q p) w w')
def ep:ByteArray:=⟨#[112,111,108,105,99,121]⟩
def Cm{w:Qm}{B q p k:Nat}{nm:ByteArray}{acc:List ah}{l:List WV}{v v0:Qn}{x y:WV}(H:Qs (ir w B q p nm acc k l v v0))(r:dW (l.drop k)= [x,y])(s:x.text=ep)(Z:y.text.size<=100000)(Q:k+2<=l.length):
 Qo zP 249 #[q] w (Lg w B q p y.text acc (k+2) l v v0):=by
 obtain⟨R,S,T⟩:=x;dsimp only at s;subst s;have t:=zh r;obtain⟨c0,A,C⟩:=aW H.row;clear r;go_enter func249,ntmps249;go_wp2_with fail;refine(sE H.ws).mono ?_;rintro e U ⟨u,rfl,d,V,-,g,h⟩;rw[t] at d h;have D:=zh (H.line g h Q);obtain⟨a,c,rfl,E,_⟩:=id d;obtain⟨b,o,rfl,W,i,F,I⟩:=gL d (j:=0) rfl;obtain⟨_,_,e,_,m,J,K⟩:=gL d (j:=1) rfl;injection e with e;injection e with L M;subst L M
 rw[Ox,NR] at i;rw[Nat.one_mul] at m;dsimp only[ep] at i;have N:=zh g;clear d g h F I J K E;go_wp2_with fail;refine zb (eV y.text _ zo) λX n=>?_
 have f:=D.below n;have O:=N.trans (Ch.fresh n);obtain⟨c0,A,C⟩:=aW f.row;have Y:=ad (o:=1) f.row;clear i m;go_wp2;go_ret;refine⟨rfl,?_,?_⟩
 ·exact f.put rfl f.own
 ·exact aP (O.mono λb _ P=> .inr (.inl P)) (.inl (.inl rfl))
def jT:ByteArray:=⟨#[116,105,101,114]⟩
def it:ByteArray:=⟨#[101,118,101,114,121]⟩
def kU:ByteArray:=⟨#[107,101,101,112]⟩
def gc:ByteArray:=⟨#[115,104,97,114,100,115]⟩
def Lh(w:Qm)(B q p:Nat)(nm:ByteArray)(acc:List ah)(k:Nat)(l:List WV)(v0:Qn)(e:Qq)(w':Qm):Prop:=e= .returned (.bool true)/\(∃v',ir w' B q p nm acc k l v' v0)/\Qs (Ch (Ml B q p) w w')
def aB.drop{g:Type}{k:Nat}{enc:g->List Qn}{w:Qm}{b o n c:Nat}{l:List g}(y:aB k enc w (.slice (some ⟨b,o,none⟩) n c) l)(h: ∀x,(enc x).length=k){j:Nat}(m:j<=l.length):aB k enc w (.slice (some ⟨b,o+j*k,none⟩) (l.length-j) (c-j)) (l.drop j):=by
 obtain⟨A,c',e,B,p⟩:=y;injection e with a f q;subst a q
 refine⟨some ⟨b,o+j*k,none⟩,c-j,by rw[OB],⟨by rw[OB];omega,zo,λe=>nomatch e⟩,λr=>?_⟩;obtain⟨C,o',d,s,t⟩:=p (λe=>r (by rw[e,List.drop_nil]));injection d with d;injection d with a f;subst a f
 refine⟨_,_,rfl,s,λi u v=>?_⟩;rw[OU];refine t _ u ?_;have e:l.flatMap enc=(l.take j).flatMap enc++(l.drop j).flatMap enc:=by rw[<-NK,Po]
 rw[e,OE (by rw[fn h,NP,OY m];omega),fn h,NP,OY m];rw[(zo:j*k+i-j*k=i)];exact v
def ny(y e k s:WV):ah:=⟨y.text,iq e.text,iq k.text,iq s.text⟩
def Cn{w:Qm}{B q p k:Nat}{nm:ByteArray}{acc:List ah}{l:List WV}{v v0:Qn}{y r s t:WV}{e2 e3 a9 b0 b1 b2 b3 b4:Int}(H:Qs (ir w B q p nm acc k l v v0))(e4:Qs (dW (l.drop k)= [⟨jT,e2,e3⟩,y,⟨it,a9,b0⟩,r,⟨kU,b1,b2⟩,s,⟨gc,b3,b4⟩,t]))
 (V:y.text.size<=100000) (e5:Qs (eG r.text=true)) (e6:Qs (eG s.text=true)) (e7:Qs (eG t.text=true)) (g7:acc.length<5) (i:k+8<=l.length):
 Qo zP 250 #[q] w (Lh w B q p nm (acc++ [⟨y.text,iq r.text,iq s.text,iq t.text⟩]) (k+8) l v0):=by
 obtain⟨b5,b6,b7,b8,b9⟩:=info_parts nt;obtain⟨c0,J,m⟩:=aW H.row;go_enter func250,ntmps250;go_wp2_with fail;refine(sE H.ws).mono ?_;rintro e e8 ⟨u,rfl,n,Z,-,O,P⟩;rw[e4] at n P;have Q:=zh (H.line O P i);have c1:=zh O;obtain⟨a,c,rfl,R,_⟩:=id n;obtain⟨b,o,rfl,c2,T,-,-⟩:=gL n (j:=0) rfl;rw[Ox,NR] at T;dsimp only[jT] at T;obtain⟨c0,J,m⟩:=aW Q.row;obtain⟨K,L,rfl⟩:=az Q.own;have e9:((acc.length:Int)==5)=false:=by rw[Od];omega
 have a0:=zh n;have a1:=zh (n.drop (λ_=>rfl) (j:=2) zm);have a2:=zh (n.drop (λ_=>rfl) (j:=4) zm);have a3:=zh (n.drop (λ_=>rfl) (j:=6) zm);obtain⟨f0,f1⟩:8<=c/\c<=9223372036854775807:=⟨by have:=R.1;simpa using this,R.2.1⟩;simp only[NW,OM,List.drop_succ_cons,Pn,Nat.reduceAdd,Nat.reduceSub,Nat.reduceMul] at a0 a1 a2 a3⊢;have f2: ¬c=2:=zo;have f3: ¬c=4:=zo;have f4: ¬c=6:=zo;have f5:2<=c:=zo;have f6:4<=c:=zo;have f7:6<=c:=zo;clear n O P R;go_wp2_with fail;refine zb (jS (x:=⟨it,a9,b0⟩) a1 e5) λf8 A=>?_
 have c3:=Q.below A;have c4:=c1.trans (Ch.fresh A);have c5:=a0.below A;have c6:=a2.below A;have c7:=a3.below A;clear T c0 J m;go_wp2_with fail;refine zb (jS (x:=⟨kU,b1,b2⟩) c6 e6) λf9 M=>?_
 have c8:=c3.below M;have c9:=c4.trans (Ch.fresh M);have d0:=c5.below M;have d1:=c7.below M;go_wp2_with fail;refine zb (jS (x:=⟨gc,b3,b4⟩) d1 e7) λg0 U=>?_
 have C:=c8.below U;have d2:=c9.trans (Ch.fresh U);have d3:=d0.below U;obtain⟨c0,J,m⟩:=aW C.row;obtain⟨g1,o',e,c2,D,-,-⟩:=gL d3 (j:=1) rfl;injection e with e;injection e with r d4;subst r d4
 rw[Nat.one_mul] at D;have hq:=aa C.row;go_wp2_with fail;have g2:=H.ne;have g3:=H.B_le;have a4:=λk i=>(World.ownsRow.lt H.own k i)
 have g4:=Z _ _ _ _ _ rfl;have f:=zh (show∀k,(Value.slice K acc.length L).ownBlock=some k->k≠q/\k≠b/\B<=k from λk i=>by have:=a4 k i;omega);clear a4 Z;refine aC (S:=(λw'=>w'.cell? ⟨q,0,none⟩=some (.pointer (some ⟨p,0,none⟩))/\w'.cell? ⟨q,2,none⟩=some (.slice K acc.length L)/\w'.cell? ⟨b,o+3,none⟩=some (.string y.text))) 17 zk ?_ (λd=>?_)
 ·(first|exact⟨c0,m,D⟩|exact⟨ae d.1 g,ae d.2.1 g,ae d.2.2 g⟩|exact⟨ae d.1 ze,ae d.2.1 ze,ae d.2.2 ze⟩|exact⟨h _ _ d.1 (λe=>(f _ e).1 rfl),h _ _ d.2.1 (λe=>(f _ e).1 rfl),h _ _ d.2.2 (λe=>(f _ e).2.1 rfl)⟩)
 refine zU 0 ?_;refine zU 1 ?_;refine zU 2 ?_;refine zU 3 ?_;refine zU 4 ?_;refine zU 5 ?_;refine zU 6 ?_;refine zU 7 ?_;refine zU 8 ?_;refine zU 9 ?_;refine zU 11 ?_;refine zU 12 ?_;refine zU 13 ?_;refine zO 10 λa5 E=>?_
 go_simp;refine zb (eV y.text _ zo) λa6 g=>?_;have F:=ec g
 refine zE E (by first|exact⟨c0,m,D⟩|exact⟨ae d.1 g,ae d.2.1 g,ae d.2.2 g⟩|exact⟨ae d.1 ze,ae d.2.1 ze,ae d.2.2 ze⟩|exact⟨h _ _ d.1 (λe=>(f _ e).1 rfl),h _ _ d.2.1 (λe=>(f _ e).1 rfl),h _ _ d.2.2 (λe=>(f _ e).2.1 rfl)⟩) λd=>?_
 refine zU 14 ?_;refine zO 15 λa5 E=>?_
 go_simp
 skip
 refine zE E (by first|exact⟨c0,m,D⟩|exact⟨ae d.1 g,ae d.2.1 g,ae d.2.2 g⟩|exact⟨ae d.1 ze,ae d.2.1 ze,ae d.2.2 ze⟩|exact⟨h _ _ d.1 (λe=>(f _ e).1 rfl),h _ _ d.2.1 (λe=>(f _ e).1 rfl),h _ _ d.2.2 (λe=>(f _ e).2.1 rfl)⟩) λd=>?_
 refine zO 16 λa5 E=>?_
 rw[NH (by simp[Region.wanted])];refine cY (enc:=ah.cells) _ _ 30 rfl B 116 b5 _ 40 underlying30 b6 b7 b8 b9 rfl zd _ _ _ _ [ny y r s t] rfl (aS (aS C.own F) ze) rfl (bC 4 (c:=1) (l:= [ny y r s t]) (ag rfl) rfl ⟨Nt 1,zd⟩) (λ_=>rfl) (by intro x y V;simp only[ah.cells,NL,NJ,Ou] at V;rcases V with rfl|rfl|rfl|rfl<;>rfl) (zo:(acc.length+1)*40<140737488355328) zd (Nq (Nq C.B_le F.size) ze.size) (λv' W X I=>?_);have h:=λ(p:Addr) (x:Qn) (a7:World.cell? _ p=some x) (d5:(Value.slice K acc.length L).ownBlock≠some p.block)=>(World.cell?_of_block (a:=p) (I.block p.block (Nv _ _ a7) (λe=>d5 e.symm))).trans a7
 refine zE E (by first|exact⟨c0,m,D⟩|exact⟨ae d.1 g,ae d.2.1 g,ae d.2.2 g⟩|exact⟨ae d.1 ze,ae d.2.1 ze,ae d.2.2 ze⟩|exact⟨h _ _ d.1 (λe=>(f _ e).1 rfl),h _ _ d.2.1 (λe=>(f _ e).1 rfl),h _ _ d.2.2 (λe=>(f _ e).2.1 rfl)⟩) λd=>?_
 refine zF ?_;obtain⟨d6,d7,rfl⟩:=az X;have g5:=F.size
 have Y: ∀k,k<a6.heap.size->(Value.slice K acc.length L).ownBlock≠some k->W.heap[k]?=a6.heap[k]?:=λk i d8=>by
  rw[I.block k zu (λe=>d8 e.symm)];exact PF ze k i
 have N:=C.below F;have d9:=zh (ir.grow (w':=W) (v':= .slice d6 (acc.length+1) d7) (acc':=acc++ [ny y r s t]) N Y (by have:=I.size;simp at this;omega) (by simpa using X));have a8:=(Y q (by have:=aa N.row;omega) (λe=>(f q e).1 rfl)).trans N.row;obtain⟨c0,J,m⟩:=aW a8;have g6:=ad (o:=2) a8;have e0:=zh (show Ch (Ml B q p) w W from fQ (((d2.mono (G:=Ml B q p) λb _ e1=> .inr (.inl e1)).trans (Ch.fresh F)).trans (Ch.fresh ze)) I (λk i=> .inl (.inr (.inr (f k i).2.2))));clear Y N X I d;go_wp2;go_ret;exact⟨rfl,⟨_,d9⟩,aP e0 (.inl (.inl rfl))⟩
def vL:List WV->Option ah
 | [a,b,c,d,e,f,g,h]=>if a.text=jT/\c.text=it/\e.text=kU/\g.text=gc/\eG d.text=true/\eG f.text=true/\eG h.text=true then some (ny b d f h) else none
 |_=>none
def lx(l:List WV):Nat->Nat->Option (List ah)
 |0,_=>none
 |f+1,k=>if k<l.length then match vL (dW (l.drop k)) with
  |none=>none
  |some t=>(lx l f (k+8)).map (t:: ·)
  else some []
def yf{w:List WV}{t:ah}(h:vL w=some t): ∃y j k l a b c d e f g i,w= [⟨jT,a,b⟩,y,⟨it,c,d⟩,j,⟨kU,e,f⟩,k,⟨gc,g,i⟩,l]/\eG j.text=true/\eG k.text=true/\eG l.text=true/\t=ny y j k l:=by
 unfold vL at h;split at h
 ·rename_i a b c d e f g i
  split at h
  ·rename_i q
   obtain⟨m,n,o,p,r,s,u⟩:=q;obtain⟨at_,v,x⟩:=a;obtain⟨A,B,C⟩:=c;obtain⟨et,D,E⟩:=e;obtain⟨F,H,I⟩:=g;dsimp only at m n o p;subst m n o p;injection h with h
   exact⟨b,d,f,i,_,_,_,_,_,_,_,_,rfl,r,s,u,h.symm⟩
  ·cases h
 ·cases h
def qC(l:List WV)(k:Nat)(a:k<=l.length):k+(dW (l.drop k)).length<=l.length:=by
 have:(dW (l.drop k)).length<=(l.drop k).length:=by
  cases l.drop k with
  |nil=>exact Nt _
  |cons x r=>simp only[dW,NW];have:=(List.takeWhile_sublist (l:=r) (λy=>y.line==x.line)).length_le;omega
 rw[OB] at this;omega
def qD{l:List WV}{k:Nat}{x:WV}(a:x∈dW (l.drop k)):x∈l:=by
 cases h0:l.drop k with
 |nil=>rw[h0] at a;cases a
 |cons y r=>
  rw[h0] at a;refine List.mem_of_mem_drop (i:=k) ?_;rw[h0];simp only[dW,NL] at a⊢;rcases a with a|a
  ·exact .inl a
  ·exact .inr ((List.takeWhile_sublist _).subset a)
structure fR(s:ByteArray)(n:ByteArray)(ts:List ah):Prop where
 ex: ∃l x y f,Fc s= .ok l/\dW l= [x,y]/\x.text=ep/\y.text=n/\lx l f 2=some ts/\ts.length<=5/\(∀x∈l,x.text.size<=100000)/\(∀x∈ts,x.ok)
def Fe(w:Qm)(n:ByteArray)(c:List ah)(e:Qq)(w':Qm):Prop:= ∃a,e= .returned (.tuple #[.agg #[n,a],(),()])/\Qs (aH w' a c)/\Qs (iX w.heap.size a)/\Qs (Qr w.heap.size w w')
def yg(s n:ByteArray)(E:List ah)(m:Int)(w:Qm)(d6:fR s n E)(g7:s.size<=1000000)(g8:w.cell? ⟨0,0,none⟩=some (.int .i64 m)):Qo zP 175 #[s] w (Fe w n E):=by
 obtain⟨l,x,y,f,M,U,d7,rfl,b3,g9,b4,b5⟩:=d6.ex;have b6:=zh b5;have d8:=zh M;have b7:=zh U;have d9:=zh b3;have b8:=zh b4;have h0:2<=l.length:=by have:=qC l 0 zp;rw[Pn,U] at this;simpa using this
 clear M U b3 b4 b5 d6;go_enter func175,ntmps175;go_wp2_with fail;refine(Fd s m _ g7 (ae g8 ze)).mono ?_;rintro e j ⟨N,V⟩;rw[d8] at V;dsimp only at V;obtain⟨p,rfl,⟨b9,W,X,c1,h1,e0⟩,e1⟩:=V;obtain⟨Y,c2⟩:=bl N;have e2:=zh c2;have e3:=zh Y;have h2:=aa W;have h3:=aa Y
 have c3:=zh (show ir (j.alloc (.cells #[p,.string ⟨#[]⟩,z0] 318)) (j.heap.size+1) j.heap.size p ⟨#[]⟩ [] 0 l (.slice none 0 0) b9 from
  ⟨ag rfl,by simpa using World.ownsRow_nil _ _ _ _,ab W ze,X.below ze,λb g=>by
   obtain⟨a,c,e,_,d⟩:=X
   have O:b<j.heap.size:=by
    rw[e] at g;cases a with
    |none=>exact g.elim
    |some a=>
     obtain⟨N,C⟩:=g;obtain⟨h4,o',Z,e4,_⟩:=d (λe=>N (by rw[e];rfl));injection Z with Z;rw[Z] at C;subst C;exact e4
   exact⟨c1 b g,zo,zo⟩,⟨zo,zo,zo⟩,⟨Nx _,e0⟩,zm⟩)
 clear N c2 Y W X c1;obtain⟨q,hq⟩:=zx j.heap.size;have e5:=ai e2 (ak j (.cells #[p,.string ⟨#[]⟩,z0] 318));have e6:=zh (ab e3 (ak j (.cells #[p,.string ⟨#[]⟩,z0] 318)));have h5:w.heap.size+1<=p:=by simpa using e1
 have h6:p<q/\w.heap.size<q/\w.heap.size<p:=zo;rw[<-hq] at c3;go_wp2_with fail;rw[<-hq];have h7:=zh hq;clear hq;go_loopw [9] (λx wr=> ∃(b:Bool) (k:Nat) (nm:ByteArray) (h rest:List ah) (v:Qn) (f:Nat),x= .bool b/\Qs (ir wr (q+1) q p nm h k l v b9)/\Qs (h++rest=E)/\Qs (b=true->k=0/\h= [])/\Qs (b=false->nm=y.text/\lx l f k=some rest)/\Qs (Qr w.heap.size w wr)/\Qs (wr.heap[w.heap.size]?=some (.cells #[.string ⟨#[]⟩,z0] 32))) (λx wr=>l.length-(intOf ((wr.cell? ⟨p,0,none⟩).getD undef)).toNat)
 case atStart=>exact⟨true,0,_,[],E,_,0,rfl,c3,zh (Ol _),zh (λ_=>⟨rfl,rfl⟩),zh (λd=>nomatch d),e5,e6⟩
 case round=>
  obtain⟨b,k,nm,h,rest,v,D,rfl,i,a0,a1,a2,P,c4⟩:=hrel;have e7:=i.k_le;have h8:=aa i.row;have c0:=i.ws.cell;cases b
  ·obtain⟨e8,c5⟩:=a2 rfl
   subst e8;have c6:=zh c5;clear c5 a1 a2;obtain⟨a3,a4,a5⟩:=aW i.row;go_wp2_with fail;refine zb (qz i.ws) λF C=>?_
   have u:=i.below C;have a6:=aI P C P.size;have Q:=zh (ab c4 C);obtain⟨a3,a4,a5⟩:=aW u.row;by_cases O:k<l.length
   ·have h9:0<((l.length-k:Nat):Int):=zo
    obtain⟨z,H⟩: ∃z,l[k]?=some z:=⟨_,Np O⟩;have I:=zh H;clear H;go_wp2_with fail;refine zb (iJ u.ws) λe9 A=>?_
    rw[I];dsimp only[jx,WV.val];have R:=u.below A;have J:=aI a6 A a6.size;have a7:=zh (ab Q A)
    obtain⟨t,rest',c7,f0,a8,c8⟩: ∃t rest',vL (dW (l.drop k))=some t/\rest=t::rest'/\ ∃a8,lx l a8 (k+8)=some rest':=by
     have d:=c6.out;cases D with
     |zero=>cases d
     |succ D=>
      unfold lx at d;rw[NH O] at d;cases hg:vL (dW (l.drop k)) with
      |none=>rw[hg] at d;cases d
      |some t=>
       rw[hg] at d;dsimp only at d;cases hg2:lx l D (k+8) with
       |none=>rw[hg2] at d;cases d
       |some r=>rw[hg2] at d;injection d with d;exact⟨t,r,rfl,d.symm,D,hg2⟩
    obtain⟨c9,f1,f2,f3,i0,i1,i2,i3,i4,i5,i6,i7,S,d0,d1,d2,rfl⟩:=yf c7;have d3:=qC l k e7.1;rw[S] at d3;simp only[NW,OM] at d3;have f4:=b8 c9 (qD (k:=k) (by rw[S];simp));subst f0;have f5:h.length<5:=by have:=Of List.length a0;simp at this;omega
    have f6:=zh S;have f7:=zh d0;have f8:=zh d1;have f9:=zh d2;have g0:=zh c8;clear S d0 d1 d2 c8 c7;go_wp2_with fail;refine(Cn (R.below ze) f6 f4 f7 f8 f9 f5 zo).mono ?_;rintro e g1 ⟨rfl,⟨g2,T⟩,K⟩;have L:=zh T;have a9:=J.trans ((Ch.trans (Ch.fresh ze) K).below (B:=w.heap.size) (λb g=>by rcases g with g|g|g<;>omega) J.size);have b0:=K.keep (ab a7 ze) (λg=>by rcases g with g|g|g<;>omega);clear T;go_wp2;go_roundw
    case rel=>exact⟨false,k+8,y.text,h++ [ny c9 f1 f2 f3],rest',g2,a8,rfl,L,zh (by rw[NX];exact a0),zh (λd=>nomatch d),zh (λ_=>⟨rfl,g0⟩),a9,b0⟩
    case measure=>rw[L.ws.cell,c0];simp[intOf];omega
   ·have I:=zh (zo:l.length-k=0)
    have b1:=zh (show h=E by
     have d:=c6.out;cases D with
     |zero=>cases d
     |succ D=>
      unfold lx at d;rw[NB O] at d;injection d with d
      rw[<-a0,<-d,OJ])
    rw[I];obtain⟨d4,d5,rfl⟩:=az u.own;obtain⟨g3,g4⟩:=bE Q;have i8:=ad (o:=0) Q;have i9:=ad (o:=1) Q;have j0:q≠w.heap.size:=zo;have j1:w.heap.size≠q:=zo;go_wp2;refine NG (v:= .tuple #[.agg #[y.text,.slice d4 h.length d5],(),()]) (by simp[results,results175,go_sem,g3,g4]) rfl ?_;have g:Qr F.heap.size F F:=ND _ _;have j2:=gD u.own (λx b2=>b6 x (by rw[<-b1];exact b2));have M:Ch (·=w.heap.size) F ((F.setCell ⟨w.heap.size,0,none⟩ (.string y.text)).setCell ⟨w.heap.size,1,none⟩ (.slice d4 h.length d5)):=aP (aP (Ch.refl _ _) (.inl rfl)) (.inl rfl);refine⟨_,rfl,?_,(cP u.own).mono zo,ao (ao a6 zl) zl⟩;have g5:=fo u.own M (λb g e=>by subst e;omega);have:=gD g5 (λx b2=>b6 x (by rw[<-b1];exact b2));rw[<-b1];exact this
  ·obtain⟨rfl,rfl⟩:=a1 rfl
   obtain⟨z,H⟩: ∃z,l[0]?=some z:=⟨_,Np zo⟩;have I:=zh H;clear H a1 a2;obtain⟨a3,a4,a5⟩:=aW i.row;go_wp2_with fail;refine zb (iJ i.ws) λe9 A=>?_
   rw[I];dsimp only[jx,WV.val];have R:=i.below A;have J:=aI P A P.size;have a7:=zh (ab c4 A);obtain⟨a3,a4,a5⟩:=aW R.row;have g6:=b8 y (qD (k:=0) (by rw[Pn,b7];simp));go_wp2_with fail;refine(Cm (R.below ze) (by rw[Pn];exact b7) d7 g6 zo).mono ?_;rintro e g1 ⟨rfl,T,K⟩;have L:=zh T;have a9:=J.trans ((Ch.trans (Ch.fresh ze) K).below (B:=w.heap.size) (λb g=>by rcases g with g|g|g<;>omega) J.size);have b0:=K.keep (ab a7 ze) (λg=>by rcases g with g|g|g<;>omega);go_wp2;go_roundw
   case rel=>exact⟨false,2,y.text,[],E,v,f,rfl,L,zh (Ol _),zh (λd=>nomatch d),zh (λ_=>⟨rfl,d9⟩),a9,b0⟩
   case measure=>rw[L.ws.cell,c0];simp[intOf];omega
def jf(a b:ByteArray):Bool:=a.data.toList==b.data.toList
def Jz(a b:ByteArray):(a.toList==b.toList)=jf a b:=by rw[ByteArray.toList_eq,ByteArray.toList_eq];rfl
def ah.val(x:ah):Qn:= .agg #[x.name,(x.every:Int),(x.keep:Int),(x.shards:Int)]
def jU(n m:Int)(w:Qm):Qo zP 251 #[n,m] w (aK w (.bool (decide (1<=n)&&decide (n<=m)))):=by
 by_cases a:1<=n
 ·rw[NV a,PT]
  go_enter func251,ntmps251;go_wp2;go_ret;exact⟨bu zm,ND _ _⟩
 ·rw[NQ a,Bool.false_and]
  go_enter func251,ntmps251;go_wp2;go_ret;exact⟨bu zm,ND _ _⟩
def Co(x:ah)(n:ByteArray)(b:Nat)(w:Qm)(a:w.cell? ⟨b,0,none⟩=some (.string n)):Qo zP 327 #[x.val,b] w (aK w (.bool (jf x.name n))):=by
 unfold ah.val;have c:b<w.heap.size:=Nv w _ a;go_enter func327,ntmps327;go_wp2;go_ret;exact⟨bu (Jz _ _),ak _ _⟩
def bS{w:Qm}{a:Option Addr}{n c:Nat}{l:List ah}(p:aH w (.slice a n c) l){j:Nat}(d:j<l.length): ∃b o,a=some ⟨b,o,none⟩/\b<w.heap.size/\(w.cell? ⟨b,o+j*4,none⟩=some (.string (l.getD j ah.zero).name)/\w.cell? ⟨b,o+j*4+1,none⟩=some (.int .i64 (l.getD j ah.zero).every)/\w.cell? ⟨b,o+j*4+2,none⟩=some (.int .i64 (l.getD j ah.zero).keep)/\w.cell? ⟨b,o+j*4+3,none⟩=some (.int .i64 (l.getD j ah.zero).shards))/\(l.getD j ah.zero).ok/\(l.getD j ah.zero)∈l:=by
 obtain⟨q,c',e,g,_,h⟩:=p;injection e with e _ _;subst e
 obtain⟨b,o,i,k,m⟩:=h (λe=>by rw[e] at d;exact absurd d (Oy _));have f:(l.getD j ah.zero)∈l:=by rw[Nr,Np d];exact NT d
 exact⟨b,o,i,k,m j d,g _ f,f⟩
def Ff{v:Qn}{l:List ah}{b:Nat}{n:ByteArray}{w:Qm}(h:aH w v l)(u:Qs (w.cell? ⟨b,0,none⟩=some (.string n)))(y:Qs (∀x∈l,jf x.name n=false))(E:l.length<=1000):Qo zP 390 #[v,.func (.func 327) #[] #[b]] w (aK w (.int .i64 (-1))):=by
 have j:=zh h;obtain⟨a,c,rfl,-,-,-⟩:=h;go_enter func390,ntmps390;go_wp2_with fail;go_loopw [8] (λi wr=> ∃(k:Nat),k<=l.length/\i= .int .i64 k/\Qs (Qr w.heap.size w wr)) (λi _=>l.length-(intOf i).toNat)
 case atStart=>exact⟨0,Nx _,rfl,zh zr⟩
 case round=>
  obtain⟨k,A,rfl,d⟩:=hrel;by_cases f:k<l.length
  ·obtain⟨B,o,rfl,C,⟨c0,m,p,q⟩,-,e⟩:=bS (j.below d) f
   obtain⟨T,g⟩:=zx (l.getD k ah.zero);rw[<-g] at c0 m p q e;have r:Qs (jf T.name n=false):=y T e;clear g e;go_wp2_with fail;refine zb (Co T n b _ (ae u d)) λD s=>?_
   rw[r];have t:=aI d s d.size;go_wp2;go_roundw
   case rel=>exact⟨k+1,f,by go_num,t⟩
   case measure=>simp[intOf];omega
  ·go_wp2
   go_ret;exact⟨rfl,d⟩
def Cp{v:Qn}{l:List ah}{b:Nat}{n:ByteArray}{w:Qm}(a:aH w v l)(c:w.cell? ⟨b,0,none⟩=some (.string n))(d: ∀x∈l,jf x.name n=false)(g:l.length<=1000):Qo zP 326 #[v,.func (.func 327) #[] #[b]] w (aK w (.bool false)):=by
 have H:=zh (Ff a c d g);clear a c d;go_enter func326,ntmps326;go_wp2_with fail;refine H.mono ?_;rintro e h ⟨rfl,f⟩;go_wp2;go_ret;exact⟨rfl,f⟩
def jV(a:List ah)(t:ah):Bool:=
 bn t.name&&(decide (1<=t.keep)&&decide (t.keep<=1000000))&&(decide (1<=t.shards)&&decide (t.shards<=8))&&
 match a.getLast? with
 |none=>decide (t.every=1)
 |some x=>a.all (λy=> !jf y.name t.name)&&decide (x.every<t.every)&&decide (t.every<=1000000)&&lS t.every x.every&&decide (x.keep<=t.keep)
def cD(n:ByteArray)(l:List ah):Bool:=bn n&&(decide (1<=l.length)&&decide (l.length<=5))&&(List.range l.length).all λi=>jV (l.take i) (l.getD i ah.zero)
def cZ{c:List ah}{t:ah}(e:jV c t=true):bn t.name=true/\(1<=t.keep/\t.keep<=1000000)/\(1<=t.shards/\t.shards<=8)/\((c= []/\t.every=1)\/ ∃d x,c=d++ [x]/\(∀y∈c,jf y.name t.name=false)/\x.every<t.every/\t.every<=1000000/\lS t.every x.every=true/\x.keep<=t.keep):=by
 unfold jV at e;simp only[Ot,On] at e;obtain⟨⟨⟨f,g⟩,h⟩,a⟩:=e;refine⟨f,g,h,?_⟩;cases hl:c.getLast? with
 |none=>
  rw[hl] at a;exact .inl ⟨List.getLast?_eq_none_iff.1 hl,by simpa using a⟩
 |some x=>
  rw[hl] at a;simp only[Ot,On,Ob,Qb] at a;obtain⟨⟨⟨⟨i,j⟩,k⟩,l⟩,m⟩:=a;obtain⟨d,n⟩:=List.getLast?_eq_some_iff.1 hl;exact .inr ⟨d,x,n,i,j,k,l,m⟩
def Cq{v:Qn}{A:List ah}{t:ah}{w:Qm}(P:aH w v A)(Q:Qs t.ok)(R:jV A t=true)(b5:A.length<=5):Qo zP 252 #[t.val,v] w (aK w (.bool true)):=by
 obtain⟨B,⟨S,T⟩,⟨U,V⟩,C⟩:=cZ R;have D:=zh P;have W:=zh B;have X:=zh C;have Y:=zh (show(decide (1<=t.keep)&&decide (t.keep<=1000000))=true by simp[S,T]);have Z:=zh (show(decide (1<=t.shards)&&decide (t.shards<=8))=true by simp[U,V]);obtain⟨a,c,rfl,-,-,-⟩:=P;unfold ah.val;clear R B C;go_enter func252,ntmps252;go_wp2_with fail;refine zb (dw _ [t.name] _ (cG (l:= [t.name]) zm (by rfl) (by intro s E;simp at E;subst E;exact Q.1) zm)) λa0 a1=>?_
 rw[show [t.name].all bn=true by rw[PU,W];rfl];obtain⟨n1,n2,F⟩:=gE a1;obtain⟨c0,f,g,h⟩:=fG n1;have H:=zh F;have a2:=zh n1;clear n1 n2 F;go_wp2_with fail;refine zb (jU t.keep 1000000 a0) λa3 I=>?_
 rw[Y];have J:=zh (ab a2 I);have K:=aI H I H.size;clear c0 f g h;obtain⟨c0,f,g,h⟩:=fG J;go_wp2_with fail;refine zb (jU t.shards 8 a3) λa4 L=>?_
 rw[Z];have k:=zh (ab J L);have i:=aI K L K.size;clear c0 f g h;obtain⟨c0,f,g,h⟩:=fG k;rcases X.out with⟨rfl,m⟩|⟨d,x,rfl,M,a5,b6,N,a6⟩
 ·have b7:(t.every==1)=true:=by rw[beq_iff_eq];exact m
  have b8:=zh m;clear m;go_wp2;go_ret;exact⟨rfl,i⟩
 ·have a7:=zh M
  have a8:=zh N;obtain⟨b,o,rfl,b9,⟨n,p,q,r⟩,u,-⟩:=bS (D.below i) (j:=d.length) zm;rw[(zm:(d++ [x]).getD d.length ah.zero=x)] at n p q r u;have a9:=zh u;have c1:((d.length+1:Nat):Int)<=5:=by simp at b5;omega
  have c2:(((d.length:Int)+1)==0)=false:=by rw[Od];omega
  clear M N u;have b0:=zh (show aH a4 (.slice (some ⟨b,o,none⟩) (d.length+1) c) (d++ [x]) by have:=D.below i;simpa using this);go_wp2_with fail;refine zb (Cp (b0.below ze) (ae (fG k).1 ze) a7 zo) λc3 b1=>?_
  obtain⟨O,y⟩:=bl b1;have b2:=zh (ab k y);have b3:=zh O;have b4:=aI i y i.size;clear O y c0 f g h n p q r;obtain⟨c0,f,g,h⟩:=fG b2;obtain⟨n,p,q,r⟩:=fG b3;have c4:decide (x.every<t.every)=true:=NV a5;have c5:decide (x.keep<=t.keep)=true:=NV a6;go_wp2_with fail;refine(ee x.every t.every _ Q.2.1 a9.2.1).mono ?_;rintro e c6 ⟨rfl,rfl⟩;rw[a8];go_wp2;go_ret;exact⟨rfl,b4⟩
def aH.take{w:Qm}{a:Option Addr}{n c:Nat}{l:List ah}(t:aH w (.slice a n c) l){j:Nat}(u:j<=l.length):aH w (.slice a j c) (l.take j):=by
 obtain⟨v,c',e,d,y,f⟩:=t;injection e with g A h;subst g h
 refine⟨a,c,by rw[NP,OY u],λx k=>d x (OO k),by rw[NP];omega,λm=>?_⟩;obtain⟨b,o,p,q,r⟩:=f (λe=>m (by rw[e,List.take_nil]));refine⟨b,o,p,q,λi s=>?_⟩;rw[NP] at s;have e:(l.take j).getD i ah.zero=l.getD i ah.zero:=by simp[Nr,Ow (zo:i<j)]
 rw[e];exact r i zo
def df{n:ByteArray}{l:List ah}(a:cD n l=true):bn n=true/\(1<=l.length/\l.length<=5)/\ ∀i,i<l.length->jV (l.take i) (l.getD i ah.zero)=true:=by
 unfold cD at a;simp only[Ot,On,Ob,OT] at a;exact⟨a.1.1,a.1.2,a.2⟩
def eR{v:Qn}{n:ByteArray}{l:List ah}{w:Qm}(b4:ie w v n l)(U:cD n l=true):Qo zP 176 #[v] w (aK w (.tuple #[(),()])):=by
 obtain⟨h,⟨b5,b6⟩,B⟩:=df U;have V:=zh h;have W:=zh B;obtain⟨b7,rfl,C⟩:=b4;have m:=zh C;obtain⟨a,c,rfl,-,-,-⟩:=C;have X:=zh (show(decide (1<=(l.length:Int))&&decide ((l.length:Int)<=5))=true by simp;omega);have Y:n.size<=9223372036854775807:=by unfold bn at h;simp at h;omega
 clear U h B;go_enter func176,ntmps176;go_wp2_with fail;refine zb (dw _ [n] _ (cG (l:= [n]) zm (by rfl) (by intro s D;simp at D;subst D;exact Y) zm)) λE Z=>?_
 rw[show [n].all bn=true by rw[PU,V];rfl];obtain⟨n1,n2,F⟩:=gE Z;obtain⟨c0,r⟩:=bE n1;have H:=zh F;have a0:=zh n1;clear n1 n2 F;go_wp2_with fail;refine zb (jU l.length 5 E) λa1 I=>?_
 rw[X];have J:=zh (ab a0 I);have a2:=aI H I H.size;clear c0 r;obtain⟨c0,r⟩:=bE J;go_wp2_with fail;go_loopw [21] (λi wr=> ∃(k:Nat),k<=l.length/\i= .int .i64 k/\Qs (Qr w.heap.size w wr)/\Qs (wr.heap[w.heap.size]?=some (.cells #[n,.slice a l.length c] 32))) (λi _=>l.length-(intOf i).toNat)
 case atStart=>exact⟨0,Nx _,rfl,a2,J⟩
 case round=>
  obtain⟨k,b8,rfl,f,u⟩:=hrel;by_cases x:k<l.length
  ·obtain⟨b,o,rfl,b9,⟨K,L,M,N⟩,y,-⟩:=bS (m.below f) x
   have O:=zh (W k x);obtain⟨T,P⟩:=zx (l.getD k ah.zero);rw[<-P] at K L M N y O;have a3:=zh y;have a4:=zh ((m.below f).take (j:=k) zo);obtain⟨a5,Q⟩:=bE u;have c1:=aa u;clear P y;go_wp2_with fail;obtain⟨p,q⟩:=zx (wr.alloc (.cells #[T.name,(T.every:Int),(T.keep:Int),(T.shards:Int)] 116));have g:Qr wr.heap.size wr p:=by rw[q];exact ak _ _
   have A:p.heap[wr.heap.size]?=some (.cells #[T.name,(T.every:Int),(T.keep:Int),(T.shards:Int)] 116):=by rw[q];exact ag rfl
   rw[<-q];clear q K L M N c0 r;have Q:=ae Q g;obtain⟨c2,c3,c4,c5⟩:=fG A;have c6:=aa A;have c7:w.heap.size<p.heap.size:=zo;have a6:=a4.below g;have R:=aI f g f.size;have a7:=zh (ab u g);have c8:l.length<=c:=by obtain⟨_,_,e,_,a8,_⟩:=m.out;injection e with _ _ e;omega
   have c9:k<=c:=zo;have d0:c<=9223372036854775807:=by obtain⟨_,_,e,_,a8,_⟩:=m.out;injection e with _ _ e;omega
   have d1: ¬c=0:=zo;have a9:(l.take k).length<=5:=by rw[NP];omega
   clear a5 A g;refine zJ p 7 (zL [?_,?_,?_,?_,?_,?_,?_]) zq ?_;rotate_right
   iterate 5
    refine zV ?_
   refine aw zk rfl rfl ?_ ?_
   ·intro E d S d2 b0;have d3:=d.2;go_simp;refine zb (Cq (t:=T) (a6.below d.1) a3 O a9) λa1 b1=>?_;exact b0.out _ _ zz b1
   refine zV ?_;refine zD λd4 d S=>?_
   have b2:=aI R d.1 R.size;have b3:=zh (ab a7 d.1);clear d S;go_wp2;go_roundw
   case rel=>exact⟨k+1,x,by go_num,b2,b3⟩
   case measure=>simp[intOf];omega
  ·go_wp2
   go_ret2;exact⟨rfl,f⟩
def nz(s n:ByteArray)(d:List ah)(m:Int)(w:Qm)(E:fR s n d)(i:cD n d=true)(F:s.size<=1000000)(H:w.cell? ⟨0,0,none⟩=some (.int .i64 m)):Qo zP 112 #[s] w (Fe w n d):=by
 go_enter func112,ntmps112;go_wp2_with fail;refine(yg s n d m _ E F (ae H ze)).mono ?_;rintro e x ⟨I,rfl,j,p,y⟩;obtain⟨n0,q⟩:=bl y;have r:=zh j;have t:=zh q;have u:=zh n0;obtain⟨a,c,rfl,-,-,-⟩:=j;clear q n0;go_wp2_with fail;refine zb (eR (n:=n) (l:=d) ⟨_,rfl,r.below ze⟩ i) λJ A=>?_
 obtain⟨h,f⟩:=bl A;have g:=zh (ab u f);have B:=r.below f;have C:=aI t f t.size;have K:=aa g;have L:=aa h;obtain⟨c0,D⟩:=bE g;obtain⟨M,N⟩:=bE h;have O:=ad (o:=0) g;have P:=ad (o:=1) g;have Q:=aa u;have R:w.heap.size≠x.heap.size:=zo;clear f h;go_wp2;refine NG (v:= .tuple #[.agg #[n,.slice a d.length c],(),()]) (by simp[results,results112,go_sem,c0,D]) rfl ?_;refine⟨_,rfl,?_,p.mono zm,?_⟩
 ·exact B.frame p zm (λk i _=>by simp at i;rw[af _ (by dsimp only;omega),af _ (by dsimp only;omega)])
 ·exact ao (ao C zl) zl
section
open Go.Sort
def MX(w:Qm):Prop:=(∃m,w.cell? ⟨0,0,none⟩=some (.int .i64 m))/\Lib.TabIs zP w "internal/strconv.uint64pow10" .u64 Lib.pow10Tab
def cl(B:Nat)(w:Qm):Prop:=B<=w.heap.size/\ ∀w',Qr B w w'->MX w'
section
variable{B:Nat}{w w':Qm}
def cl.now(a:cl B w):MX w:=a.2 w zr
def cl.step(a:cl B w)(c:Qr B w w'):cl B w':=⟨Nq a.1 c.size,λu d=>a.2 u (c.trans d)⟩
def cl.fresh(a:cl B w)(c:Qr w.heap.size w w'):cl B w':=a.step (c.mono a.1)
end
def yh(w:Qm)(os:Array Obj):Qr w.heap.size w (grow w os):=⟨rfl,rfl,rfl,by simp[grow],λk a=>by simp[grow,Array.getElem?_append_left a]⟩
def gF(n:Int):ByteArray:=⟨(Lib.itoa n).toArray⟩
def hD{B:Nat}(n:Int)(w:Qm)(c:Qs (cl B w))(a:aQ n):Qo zP 102 #[n] w (aK w (.string (gF n))):=by
 unfold aQ at a;go_enter func102,ntmps102;go_wp2_with fail;refine(strconv_Itoa n a.1 a.2 w c.now.2).mono ?_;rintro e d ⟨rfl,k,os,rfl⟩;go_wp2;go_ret;exact⟨rfl,dU zr k|>.trans (show Qr w.heap.size (w.drewN k) _ from yh (w.drewN k) os)⟩
end
def AL:(zP.info? 136).map (·.size)=some 2:=zk
def Il:liesAt zP zP.depth 136 (2/zP.cellsOf 136) 0 136 1=true:=zk
def sG:(zP.info? 5).map (λi=>(i.zero,i.size,i.bytes))=some (some (.int .u8 0),1,1):=zk
def qE(b:Nat)(w:Qm)(c:w.cell? ⟨b,0,none⟩=some (.pointer (some ⟨b,0,none⟩))):Qo zP 103 #[b] w λe w'=>e= .returned (.tuple #[])/\w'=w:=by
 obtain⟨j,a,_⟩:=Option.map_eq_some_iff.1 AL;go_enter func103,ntmps103;go_wp2;rw[Lib.run_neq_ptr_same w _ underlying133 a];go_wp2
 go_end0
 exact⟨rfl,rfl⟩
def oB(b:Nat)(w:Qm)(f:w.cell? ⟨b,0,none⟩=some (.pointer none))(c:w.shape? b=some (136,2))(g:w.frozen? ⟨b,0,none⟩=false):
 Qo zP 103 #[b] w λe w'=>e= .returned (.tuple #[])/\w'=w.setCell ⟨b,0,none⟩ (.pointer (some ⟨b,0,none⟩)):=by
 obtain⟨j,a,d⟩:=Option.map_eq_some_iff.1 AL;go_enter func103,ntmps103;go_wp2;rw[Lib.run_to_unsafe w ⟨b,0,none⟩ underlying133 underlying244 a (by rw[d];decide) c (Nat.zero_lt_succ 1)];simp only[Result.andThen];rw[OZ];go_wp2;rw[run_callFunc_extern func164 zk zk zk (e:=Extern.AbiNoEscape.same) zk];rw[Lib.run_noEscape];simp only[Result.andThen];rw[OZ];go_wp2;rw[Lib.run_from_unsafe w ⟨b,0,none⟩ underlying244 underlying133 a c Il];simp only[Result.andThen];rw[OZ];go_wp2
 go_end0
 exact⟨rfl,rfl⟩
def yi(B b:Nat)(bs:List Qn)(w:Qm)(a:Lib.IsBuilder 136 5 B b bs w):
 Qo zP 103 #[b] w λe w'=>e= .returned (.tuple #[])/\(Lib.BuilderAt 136 5 B b (.pointer (some ⟨b,0,none⟩)) bs w'/\Ch (·=b) w w'):=by
 rcases a with a|a
 ·refine(oB b w a.cell0 a.shape a.frozen0).mono ?_
  rintro e w' ⟨rfl,rfl⟩;exact⟨rfl,a.used _,aP (Ch.refl _ _) (.inl rfl)⟩
 ·refine(qE b w a.cell0).mono ?_
  rintro e w' ⟨rfl,rfl⟩;exact⟨rfl,a,Ch.refl _ _⟩
def uc(w:Qm)(B b:Nat)(l:List UInt8):Prop:=Lib.IsBuilder 136 5 B b (Lib.byteCells l) w
def qF(B b:Nat)(l:List UInt8)(s:ByteArray)(w:Qm)(H:Qs (uc w B b l))(M:l.length+s.size<=140737488355328)(D:B<=w.heap.size):
 Qo zP 56 #[b,s] w λe w'=>e= .returned (.tuple #[(s.size:Int),.nilIface])/\uc w' B b (l++s.data.toList)/\Qr B w w':=by
 obtain⟨j,m,n,q,r⟩:=info_parts sG;have t:(Lib.byteCells l).length=l.length:=by simp[Lib.byteCells]
 go_enter func56,ntmps56;go_wp2_with fail;refine(yi B b _ _ H).mono ?_;rintro e u ⟨rfl,x,a⟩;obtain⟨c,v,d,g,y⟩:=x;have a:Qr B w u:=a.below (λk e=>by subst e;exact c) D;obtain⟨c0,E⟩:=bE d;go_wp2_with (at_builtin;refine Lib.wpList_append_own_string _ rfl _ _ 134 9 rfl B 5 j underlying134 underlying9 m n q r _ _ _ rfl g s rfl ?c3 ?c4 ?c5 ?_)
 case c3=>unfold maxLen;omega
 case c4=>omega
 case c5=>have:=a.size;omega
 intro v' F h i _;have A:=aa d;have f:=(i.block b A (λe=>y e.symm)).trans d;obtain⟨I,J⟩:=bE f;have K:=ad (o:=1) f;obtain⟨L,cap,rfl⟩:=az h;go_wp2;go_ret2;refine⟨rfl,?_,?_⟩
 ·refine .inr ?_
  have e:Lib.byteCells (l++s.data.toList)=Lib.byteCells l++Lib.strCells s:=by simp[Lib.byteCells,Lib.strCells]
  rw[e];exact Lib.BuilderAt.put (T:=136) (e:=5) c f (bs':=Lib.byteCells l++Lib.strCells s) (by simpa[Lib.strCells_length,t] using h) zd
 ·exact(a.grown i (by have:=a.size;omega) (λk C=>(g.lt k C).1)).setCell (p:=⟨b,1,none⟩) c _
def uc.below{w w':Qm}{B b:Nat}{l:List UInt8}(g:uc w B b l)(a:Qr w.heap.size w w'):uc w' B b l:=by
 rcases g with⟨c,v,d,e,f⟩|⟨c,v,d,e,f⟩
 ·exact .inl ⟨c,v,ab d a,aS e a,f⟩
 ·exact .inr ⟨c,v,ab d a,aS e a,f⟩
def Ki(w:Qm):uc (w.alloc (.cells #[.pointer none,z0] 136)) w.heap.size w.heap.size []:=
 .inl ⟨Nt _,.slice none 0 0,ag rfl,World.ownsRow_nil _ _ _ _,by simp[Value.ownBlock]⟩
def qG(t:ah):List ByteArray:= [jT,t.name,it,gF t.every,kU,gF t.keep,gc,gF t.shards]
def AM(t:ah):List UInt8:=Lib.join ((qG t).map (·.data.toList)) [32]++ [10]
def vM{w:Qm}{g:Nat}{a:List ByteArray}{T:Qp}(d:w.heap[g]?=some (.cells (a.map Value.string).toArray T)): ∀(j:Nat) (x:ByteArray),a[j]?=some x->w.cell? ⟨g,0+j,none⟩=some (.string x):=λj x c=>by
 rw[NA w g _ _ _ _ d,Ok];simp[c]
def Fg(n:ByteArray):List UInt8:=ep.data.toList++32::n.data.toList++ [10]
def cQ(n:ByteArray)(l:List ah):List UInt8:=Fg n++l.flatMap AM
def dE(n:ByteArray)(l:List ah):ByteArray:=⟨(cQ n l).toArray⟩
def sH{B:Nat}{v:Qn}{n:ByteArray}{l:List ah}{w:Qm}(s:cl B w)(a7:ie w v n l)(a8:Qs (cD n l=true))(P:Qs (∀k,k<=l.length->(cQ n (l.take k)).length<=60000)):Qo zP 168 #[v] w (aK w (.tuple #[.string (dE n l),()])):=by
 obtain⟨D,⟨d3,d4⟩,a9⟩:=df a8;have b0:=zh a7;have Q:=zh s;obtain⟨d5,rfl,R⟩:=a7;have b1:=zh R;obtain⟨a,c,rfl,-,-,-⟩:=R;have d6:n.size<=15:=by unfold bn at D;simp at D;omega
 clear D a9 s;go_enter func168,ntmps168;go_wp2_with fail;refine zb (eR (b0.below ze) a8) λf b2=>?_
 obtain⟨n1,S⟩:=bl b2;have b3:=zh n1;have E:=zh S;obtain⟨c0,U⟩:=bE n1;have F:=aa n1;clear n1 S;go_wp2_with fail;have b4:=P 0 zp;refine(qF f.heap.size f.heap.size [] _ _ (Ki f) (by rw[Oh,Oh];show 0+(7+n.size+1)<=_;omega) zm).mono ?_;rintro e m ⟨rfl,p,V⟩
 have W:=zh (show uc m f.heap.size f.heap.size (cQ n (l.take 0)) by
  have e:([]:List UInt8)++(({data:=#[112,111,108,105,99,121,32]}:ByteArray)++n++{data:=#[10]}).data.toList=cQ n (l.take 0):=by
   simp[cQ,Fg,ep,Pi]
  rw[<-e];exact p)
 have u:=zh (show Qr f.heap.size f m from ze.trans V);have b5:=zh (ab b3 u);obtain⟨c0,U⟩:=bE b5;obtain⟨b,X⟩:=zy f.heap.size;rw[<-X] at W u F⊢;clear p V b4;go_wp2_with fail;go_loopw [26] (λi wr=> ∃(k:Nat),k<=l.length/\i= .int .i64 k/\Qs (uc wr b b (cQ n (l.take k)))/\Qs (Qr b f wr)/\b<=wr.heap.size) (λi _=>l.length-(intOf i).toNat)
 case atStart=>exact⟨0,Nx _,rfl,W,u,by have:=u.size;have:=X.out;omega⟩
 case round=>
  obtain⟨k,b6,rfl,Y,x,Z⟩:=hrel;by_cases q:k<l.length
  ·have b7:=b1.below (E.trans (x.mono (Oc F)))
   obtain⟨d7,o,rfl,d8,⟨a0,a1,a2,a3⟩,H,-⟩:=bS b7 q;have b8:=zh ((Q.fresh E).step (x.mono (by have:=Q.1;omega)))
   have I:=zh (show cQ n (l.take (k+1))=cQ n (l.take k)++AM (l.getD k ah.zero) by
    unfold cQ;rw[NE q,NK,NX,Nr,Np q];simp)
   have b9:=zh (P (k+1) q);obtain⟨T,a4⟩:=zx (l.getD k ah.zero);rw[<-a4] at a0 a1 a2 a3 H I;have J:=zh H;clear a4 H;go_wp2_with fail;obtain⟨K,y⟩:=zx (wr.alloc (.cells #[T.name,(T.every:Int),(T.keep:Int),(T.shards:Int)] 116));have A:Qr wr.heap.size wr K:=by rw[y];exact ak _ _
   have L:K.heap[wr.heap.size]?=some (.cells #[T.name,(T.every:Int),(T.keep:Int),(T.shards:Int)] 116):=by rw[y];exact ag rfl
   rw[<-y];obtain⟨d9,e0,e1,e2⟩:=fG L;have e3:=aa L;have c1:=Y.below A;have M:=b8.fresh A;have c2:=x.trans (A.mono Z);clear y a0 a1 a2 a3 L A c0 U;refine zJ K 12 (zL [?_,?_,?_,?_,?_,?_,?_,?_,?_,?_,?_]++(Nc 8 (.cells #[jT,T.name,it,.string (gF T.every),kU,.string (gF T.keep),gc,.string (gF T.shards)] 9)):: []) zq ?_;rotate_right
   iterate 4
    refine zV ?_
   refine aw zk rfl rfl ?_ ?_
   ·intro f d j N h;have O:=d.2;go_simp;refine zb (hD (B:=B) T.every _ (M.fresh d.1) J.2.1) λm r=>?_;exact h.out _ _ zz r
   iterate 2
    refine zV ?_
   refine aw zk rfl rfl ?_ ?_
   ·intro f d j N h;have O:=d.2;go_simp;refine zb (hD (B:=B) T.keep _ (M.fresh d.1) J.2.2.1) λm r=>?_;exact h.out _ _ zz r
   iterate 2
    refine zV ?_
   refine aw zk rfl rfl ?_ ?_
   ·intro f d j N h;have O:=d.2;go_simp;refine zb (hD (B:=B) T.shards _ (M.fresh d.1) J.2.2.2) λm r=>?_;exact h.out _ _ zz r
   refine aT zk rfl rfl ?_ λc3=>?_
   ·intro f d j N h;have O:=d.2;go_simp;exact h.out _ _ _ zg ⟨_,rfl,ag rfl⟩ ze
   simp only[zS];refine zA λa5 d j=>?_
   obtain⟨g,rfl,s⟩: ∃b,c3= .slice (some ⟨b,0,none⟩) 8 8/\a5.heap[b]?=some (.cells #[jT,T.name,it,.string (gF T.every),kU,.string (gF T.keep),gc,.string (gF T.shards)] 9):=j.out 11;have a6:=zh s;have c4:=c1.below d.1;have c5:=c2.trans (d.1.mono zo);have e4:=d.1.size;clear d j s;go_wp2_with fail
   have c6:(Lib.join ((qG T).map (·.data.toList)) [32]).length<=60000:=by
    have:=b9.out;rw[I,Nw] at this;unfold AM at this;rw[Nw] at this;omega
   have e5:(cQ n (l.take k)).length<=60000:=P k b6;refine(strings_Join g 0 8 (qG T) ⟨#[32]⟩ a5 (vM a6) (aa a6) (by show 8<=_;decide) (by show 8<=8;decide) (Nq c6 zd)).mono ?_;rintro e c7 ⟨rfl,C⟩;have c8:=c4.below C;have c9:=c5.trans (C.mono zo);have e6:=C.size;clear C;go_wp2_with fail;refine(qF b b _ _ c7 c8 (by rw[Oh];show _+((Lib.join ((qG T).map (·.data.toList)) [32]).toArray.size+1)<=_;simp only[List.size_toArray];omega) zo).mono ?_;rintro e w7 ⟨rfl,p,t⟩
   have d0:=zh (show uc w7 b b (cQ n (l.take (k+1))) by
    have e:cQ n (l.take k)++((⟨(Lib.join ((qG T).map (·.data.toList)) [32]).toArray⟩:ByteArray)++⟨#[10]⟩).data.toList=cQ n (l.take (k+1)):=by
     rw[I];simp[AM,Pi]
    rw[<-e];exact p)
   have d1:=c9.trans t;have e7:=t.size;clear p t;go_wp2;go_roundw
   case rel=>exact⟨k+1,q,by go_num,d0,d1,zo⟩
   case measure=>simp[intOf];omega
  ·have d2:=zh (show cQ n (l.take k)=cQ n l by rw[NC zo])
   go_wp2_with fail;refine(Builder_String_any b b _ _ Y Z).mono ?_;rintro e w7 ⟨rfl,t⟩;go_wp2;go_ret2;exact⟨by rw[d2];rfl,E.trans ((x.trans t).mono (Oc F))⟩
def Qu(s:ByteArray):Lib.strCells s=s.data.toList.map jv:=rfl
def nA{w a:Qm}{p:Nat}{e:Int}{c v':Qn}{l bs:List UInt8}(g:w.heap[p]?=some (.cells #[e,c] 215))(j:w.ownsRow p 5 1 c l.length (l.map jv))
 (m:a.ownsRow p 5 1 v' (l.length+bs.length) (l.map jv++bs.map jv)) (n:w.grownBy a c.ownBlock):
 a.heap[p]?=some (.cells #[e,c] 215)/\bw (a.setCell ⟨p,1,none⟩ v') p e (l++bs)/\Qr p w (a.setCell ⟨p,1,none⟩ v'):=by
 have h:=aa g;have d:=(n.block p h (λf=>pW j g zd f.symm)).trans g;have o:(a.setCell ⟨p,1,none⟩ v').heap[p]?=some (.cells #[e,v'] 215):=by rw[al d];rfl
 refine⟨d,⟨v',o,?_⟩,((ND p w).grown n (Oc h) (λk i=>(j.lt k i).1)).setCell (p:=⟨p,1,none⟩) zl v'⟩;rw[Nw,NU];exact m.kept (row:=some p) ⟨rfl,rfl,rfl,by simp[World.setCell],λk i q=>af _ (λf=>q (by simp[f]))⟩ (.inr (pW m d zd))
def sI(p:Nat)(s:ByteArray)(l:List UInt8)(w:Qm)(r:bw w p 0 l)(R:s.size<=60000)(S:l.length<=900000):
 Qo zP 302 #[p,s] w (λe w'=>e= .returned (.tuple #[])/\bw w' p 0 (l++aq s.size 2++s.data.toList)/\Qr p w w'):=by
 obtain⟨t,u,v,x,y⟩:=info_parts tN;have a:=zh r;have H:(s.size:Int)<=60000:=by omega
 clear r;go_enter func302,ntmps302;go_wp2_with fail;refine a.out.fail.mono ?_;rintro e A ⟨rfl,c⟩;have g:=a.out.keep c;have B:=zh (show Qr p w A from c.mono (Oc a.out.lt));clear c;go_wp2_with fail;refine(lT p 2 s.size 0 l _ g (by omega) (by omega) (by omega)).mono ?_;rintro e I ⟨rfl,h,i⟩;have C:=B.out.trans (i.below g);have D:=zh h;obtain⟨J,j,d⟩:=h;obtain⟨c0,K⟩:=bE j;have L:(l++aq (s.size:Int) 2).length<=900002:=by rw[Nw,am];omega
 clear i;go_wp2_with (at_builtin;refine Lib.wpList_append_own_string _ rfl _ _ 134 9 rfl p 5 t underlying134 underlying9 u v x y _ _ _ rfl d s rfl ?c3 ?c4 ?c5 ?_)
 case c3=>unfold maxLen;omega
 case c4=>omega
 case c5=>have:=D.out.lt;omega
 intro v' M f k _;obtain⟨N,cap,rfl⟩:=az f;obtain⟨m,n,q⟩:=nA j d (bs:=s.data.toList) (by simpa[Qu] using f) k;have E:=zh n;have F:=zh q;obtain⟨O,P⟩:=bE m;have Q:=ad (o:=1) m;clear f k n q d;go_wp2
 go_end0
 exact⟨rfl,by simpa using E.out,C.trans (by simpa using F.out)⟩
def AN{w:Qm}{p b:Nat}{e:Int}{l:List UInt8}(a:bw w p e l)(c:w.heap.size=b)(o:Obj):jz (w.alloc o) p b:=by subst c;exact jz.new a o
def yj{w:Qm}{b:Nat}{v:Qn}{T:Qp}(a:w.heap.size=b):(w.alloc (.cells #[v] T)).cell? ⟨b,0,none⟩=some v:=by
 rw[NA _ b _ _ _ _ (ag a)];rfl
def fp(s:ByteArray):List UInt8:=UInt8.ofNat s.size::s.data.toList++List.replicate (15-s.size) 0
def sJ: ∀n:Nat,aq 0 n=List.replicate n 0
 |0=>rfl
 |n+1=>by rw[PM,<-sJ n];rfl
def sK(p b:Nat)(s:ByteArray)(l:List UInt8)(w:Qm)(A:Qs (bw w p 0 l))(b9:s.size<=15)(c1:l.length<=900000)(c2:w.cell? ⟨b,0,none⟩=some (.string s))(b0:jz w p b):
 Qo zP 269 #[p,.slice (some ⟨b,0,none⟩) 1 1] w (λe w'=>e= .returned (.tuple #[])/\Qs (bw w' p 0 (l++fp s))/\Qs (Qr p w w')):=by
 obtain⟨g,B,C,D,E⟩:=info_parts tN;have b1:(s.size:Int)<=15:=zo;go_enter func269,ntmps269;go_wp2_with fail;refine NM 2 ?_;rw[NF];go_wp2_with fail;refine A.fail.mono ?_;rintro e a ⟨rfl,h⟩;have k:=zh (A.keep h);have U:=zh (show Qr p w a from h.mono (Oc A.lt));obtain⟨F,m,c⟩:=k.out;obtain⟨va,V,rfl⟩:=az c;obtain⟨c0,W⟩:=bE m;have X:=k.lt;clear h;have H: ∀o,(a.alloc o).heap[p]?=some (.cells #[(),.slice va l.length V] 215):=λo=>ab m ze
 go_wp2_with (at_builtin;refine wpList_append_own _ rfl _ _ 134 rfl p 5 g _ 1 1 underlying134 B C D E rfl zd _ _ _ rfl (c.alloc _) ⟨a.heap.size,0,none⟩ 1 1 [.int .u8 s.size] rfl rfl ?qc2 ?qc3 ?qc4 ?qc5 ?qc6 ?_)
 case qc2=>exact λj u d=>ks _ _ _ j u d
 case qc3=>intro u I;simp only[NL,NJ,Ou] at I;subst I;rfl
 case qc4=>unfold maxLen;omega
 case qc5=>omega
 case qc6=>simp;omega
 intro b2 Y n q _;obtain⟨r,t,rfl⟩:=az n
 have J:jv (UInt8.ofNat s.size)= .int .u8 s.size:=by
  unfold jv;rw[show(UInt8.ofNat s.size).toNat=s.size by simp;omega]
 obtain⟨v,K,L⟩:=nA (H _) (c.alloc _) (bs:= [UInt8.ofNat s.size]) (by rw[List.map_singleton,J];exact n) q;have Z:=zh K;have M:=zh (show Qr p w _ from U.trans (Below.trans ((ak a _).mono (Oc X)) L));obtain⟨a0,a1⟩:=bE v;have a2:=ad (o:=1) v;obtain⟨F,f,x⟩:=K;have N:=al (i:=1) v (.slice r (l.length+1) t)
 obtain rfl:F= .slice r (l.length+1) t:=by
  have d:=N.symm.trans f;simp at d;exact d.symm
 have E:=b0.1;have b3:=q.size;have a3:=aa f;obtain⟨b4,O⟩:=zy (Y.setCell ⟨p,1,none⟩ (.slice r (l.length+1) t));rw[<-O] at Z M f x N a3;clear n q L c m H k c0 W;go_wp2_with (at_builtin;rw[<-O];refine Lib.wpList_append_own_string _ rfl _ _ 134 9 rfl p 5 g underlying134 underlying9 B C D ‹g.bytes=1› _ _ _ rfl x s rfl ?c3 ?c4 ?c5 ?_)
 case c3=>simp;unfold maxLen;omega
 case c4=>simp;omega
 case c5=>omega
 intro b5 b6 y P _;obtain⟨b7,b8,rfl⟩:=az y;obtain⟨Q,R,S⟩:=nA f x (bs:=s.data.toList) (by simpa[Qu,J] using y) P;have T:=zh R;have a4:=M.trans S;obtain⟨a0,a1⟩:=bE Q;have a2:=ad (o:=1) Q;clear y P R S;go_wp2_with fail;rw[(zo:(15:Int)-s.size=((15-s.size:Nat):Int))];refine(lT p (15-s.size) 0 0 _ _ T zo zo zu).mono ?_;rintro e a5 ⟨rfl,a6,a7⟩;have a8:=a4.trans (a7.below T)
 have a9:=zh (show bw a5 p 0 (l++fp s) by
  have e:l++ [UInt8.ofNat s.size]++s.data.toList++aq 0 (15-s.size)=l++fp s:=by rw[sJ];simp[fp]
  rw[<-e];exact a6)
 go_wp2;rw[NF];go_wp2
 go_end0
 exact⟨rfl,a9,a8⟩
def gM: ∀(n:Nat) (v:Int),0<=v->v<256^n->cX (aq v n)=v
 |0,v,c,a=>by simp at a;simp[aq,cX];omega
 |n+1,v,c,a=>by
  have d:(256:Int)^(n+1)=256^n*256:=Int.pow_succ 256 n;have e:v/256<256^n:=by rw[d] at a;omega
  have f:(v%256).toNat<256:=zo;simp only[aq,cX,gM n (v/256) zo e,UInt8.toNat_ofNat',Nat.mod_eq_of_lt f];omega
def jg{a b:ByteArray}(c:a.data.toList=b.data.toList):a=b:=Qg (Pt.1 c)
def UL(w:Qm)(u:Nat)(l:List UInt8):Prop:=fj w u 0 ⟨l.toArray⟩
section
variable{w w':Qm}{u:Nat}{a r l:List UInt8}
def UL.below(a:UL w u l)(c:Qr w.heap.size w w'):UL w' u l:=ab a c
def UL.lt(a:UL w u l):u<w.heap.size:=aa a
def dA(l:List UInt8):(⟨l.toArray⟩:ByteArray).size=l.length:=by show l.toArray.size=_;simp
def Im(a r:List UInt8):(⟨(a++r).toArray⟩:ByteArray).extract 0 a.length=⟨a.toArray⟩:=jg (by rw[bK];simp)
def py(a r:List UInt8):(⟨(a++r).toArray⟩:ByteArray).extract a.length (⟨(a++r).toArray⟩:ByteArray).size=⟨r.toArray⟩:=jg (by rw[bK,dA,NC zm];simp)
def ud(f:UL w u (a++r))(g:(a++r).length<=1000000):Qo zP 383 #[u,(a.length:Int)] w (λe w'=>e= .returned (.string ⟨a.toArray⟩)/\Qs (UL w' u r)/\Qs (cR u w w')):=by
 refine(mY u a.length _ w f (by rw[dA];simp) (by rw[dA];omega)).mono ?_;rintro e w' ⟨rfl,c,d⟩;rw[py] at c;exact⟨by rw[Im],c,d⟩
def pz{v:Int}(g:UL w u (aq v 8++r))(h:(aq v 8++r).length<=1000000)(d:0<=v/\v<=18446744073709551615):Qo zP 384 #[u] w (λe w'=>e= .returned (.int .u64 v)/\Qs (UL w' u r)/\Qs (cR u w w')):=by
 refine(iE u _ w g (by rw[dA];simp[am]) (by rw[dA];omega)).mono ?_;rintro e w' ⟨rfl,a,f⟩;have c:=py (aq v 8) r;rw[am] at c;rw[c] at a;refine⟨?_,a,f⟩;rw[show(aq v 8++r).toArray.toList.take 8=aq v 8 by simp[OP,am],gM 8 v d.1 (by have:=d.2;show v<18446744073709551616;omega)]
def In{v:Int}(a:aQ v):fI (bM v)=v:=by unfold aQ at a;unfold fI bM;split<;>omega
def qH{v:Int}(g:UL w u (aq (bM v) 8++r))(i:(aq (bM v) 8++r).length<=1000000)(h:aQ v):Qo zP 317 #[u] w (λe w'=>e= .returned (.int .i64 v)/\Qs (UL w' u r)/\Qs (cR u w w')):=by
 have a:0<=bM v/\bM v<=18446744073709551615:=by unfold bM;omega
 refine(qa u _ w g (by rw[dA];simp[am]) (by rw[dA];omega)).mono ?_;rintro e w' ⟨rfl,c,f⟩;have d:=py (aq (bM v) 8) r;rw[am] at d;rw[d] at c;refine⟨?_,c,f⟩;rw[show(aq (bM v) 8++r).toArray.toList.take 8=aq (bM v) 8 by simp[OP,am],gM 8 _ a.1 (by have:=a.2;show bM v<18446744073709551616;omega),In h]
def eh{v:Int}{sz:Nat}(h:UL w u (aq v sz++r))(d:sz=4\/sz=2\/sz=1)(i:(aq v sz++r).length<=1000000)(f:0<=v/\v<rQ sz):Qo zP 316 #[u,(sz:Int)] w (λe w'=>e= .returned (.int .i64 v)/\Qs (UL w' u r)/\Qs (cR u w w')):=by
 refine(jG u sz _ w h d (by rw[dA];simp[am]) (by rw[dA];omega)).mono ?_;rintro e w' ⟨rfl,a,g⟩;have c:=py (aq v sz) r;rw[am] at c;rw[c] at a;refine⟨?_,a,g⟩;rw[show(aq v sz++r).toArray.toList.take sz=aq v sz by simp[OP,am],gM sz v f.1 (by rcases d with rfl|rfl|rfl<;>exact f.2)]
def cR.fresh{a b c:Qm}{u:Nat}(d:cR u a b)(k:Qr b.heap.size b c):cR u a c:=d.trans (cR.of_below k)
def Io(a:UL w u l)(e:l.length<=1000000):Qo zP 372 #[u] w (aK w (.int .i64 l.length)):=by
 obtain⟨c0,c⟩:=bE (show w.heap[u]?=some (.cells #[(),.string ⟨l.toArray⟩] 468) from a);have d:=dA l;clear a;go_enter func372,ntmps372;go_wp2;go_ret;exact⟨zm,ND _ _⟩
def yk(a:UL w u l):Qo zP 418 #[u] w (aK w (.int .i64 0)):=by
 obtain⟨c0,c⟩:=bE (show w.heap[u]?=some (.cells #[(),.string ⟨l.toArray⟩] 468) from a);clear a;go_enter func418,ntmps418;go_wp2;go_ret;exact⟨rfl,ND _ _⟩
def Ip(H:Qs (UL w u l))(d:l.length<=1000000):Qo zP 319 #[u] w (λe w'=>e= .returned (.string ⟨l.toArray⟩)/\Qs (UL w' u [])/\Qs (cR u w w')):=by
 go_enter func319,ntmps319;go_wp2_with fail;refine zb (Io H d) λk c=>?_
 have f:=H.below c;have g:=zh (cR.of_below (u:=u) c);go_wp2_with fail;refine(ud (a:=l) (r:= []) (by rw[OJ];exact f) (by simpa using d)).mono ?_;rintro e m ⟨rfl,h,i⟩;have j:=g.trans i;go_wp2;go_ret;exact⟨rfl,h,j⟩
def fS{s:ByteArray}(a:s.size<=15):(fp s).length=16:=by simp[fp];omega
def Cr(n:Nat):Lib.trimB (List.replicate n 0) 0= []:=by
 have a: ∀m:Nat,(List.replicate m (0:UInt8)).dropWhile (·==0)= []:=λm=>by
  induction m with
  |zero=>rfl
  |succ m c=>rw[PM,List.dropWhile_cons];simp[c]
 unfold Lib.trimB Lib.trimRightB Lib.trimLeftB;rw[List.reverse_replicate,a];rfl
def Iq{s:ByteArray}(H:Qs (UL w u (fp s++r)))(y:1<=s.size/\s.size<=15)(j:(fp s++r).length<=1000000):Qo zP 385 #[u] w (λe w'=>e= .returned (.string s)/\Qs (UL w' u r)/\Qs (cR u w w')):=by
 have f:=fS y.2;have k:=zh f;have l:=zh j;clear j;go_enter func385,ntmps385;go_wp2_with fail;rw[show(16:Int)=((fp s).length:Nat) by rw[k];rfl];refine(ud H l).mono ?_;rintro e d ⟨rfl,m,n⟩;obtain⟨t,a⟩:=zy (⟨(fp s).toArray⟩:ByteArray);have A:t.size=16:=by rw[a,dA,f]
 have B:0<t.size:=zo
 have C:t[0].toNat=s.size:=by
  have e:t.data.toList[0]?=some (UInt8.ofNat s.size):=by rw[a];simp[fp]
  have o:t.data.toList[0]?=some t[0]:=by simp[NY]
  rw[o] at e;injection e with e;rw[e];simp;omega
 have p:s.data.toList.length=s.size:=zm;have c:t.data.toList=(UInt8.ofNat s.size::s.data.toList)++List.replicate (15-s.size) 0:=by rw[a];simp[fp]
 have g:=zh (show t.extract (1+s.size) 16=⟨(List.replicate (15-s.size) 0).toArray⟩ from jg (by
  rw[bK,c,NC zu,List.drop_append_of_le_length zu,OQ zu];simp))
 have q:=zh (show t.extract 1 (1+s.size)=s from jg (by
  rw[bK,c,OP zu,NC zu];simp))
 have D:t.toList.isEmpty=false:=by rw[ByteArray.toList_eq,c];rfl
 have E:=zi (15<(s.size:Int));rw[<-a];clear c p;go_wp2_with fail;refine(strings_Trim_one _ 0 zd d (by rw[g,dA];simp;omega)).mono ?_;rintro e v ⟨rfl,h⟩;rw[g,show(⟨(List.replicate (15-s.size) (0:UInt8)).toArray⟩:ByteArray).data.toList=List.replicate (15-s.size) 0 from rfl,Cr];have i:=zh (show Qr d.heap.size d v by rcases h with rfl|rfl;exact ND _ _;exact zr.drew);clear h;go_wp2;go_ret;exact⟨by first|exact Of (λx=>Ending.returned (.string x)) q|rfl,m.below i,n.fresh i⟩
def AO{t:ByteArray}(f:UL w u (aq t.size 2++(t.data.toList++r)))(U:t.size<=60000)(g:(aq (t.size:Int) 2++(t.data.toList++r)).length<=1000000):Qo zP 370 #[u] w (λe w'=>e= .returned (.string t)/\Qs (UL w' u r)/\Qs (cR u w w')):=by
 have H:=zh f;have h:=zh g;obtain⟨c0,k⟩:=bE (show w.heap[u]?=some (.cells #[(),.string ⟨_⟩] 468) from f);have F:=f.lt;obtain⟨a,d⟩:=zx (⟨(aq (t.size:Int) 2++(t.data.toList++r)).toArray⟩:ByteArray);have i:a.size=2+t.size+r.length:=by rw[d,dA];simp[am];omega
 have l:=zh (show cX (a.extract 0 2).data.toList=t.size by
  rw[bK,d];rw[show(aq (t.size:Int) 2++(t.data.toList++r)).toArray.toList.take 2=aq (t.size:Int) 2 by simp[OP,am]];rw[Pn,gM 2 _ zo (by show(t.size:Int)<65536;omega)])
 have I:(2:Int)<=a.size:=zo;have J:(a.size:Int)<=9223372036854775807:=by have:=g;simp[am] at this;omega
 have K:(t.size:Int)<=(a.size:Int)-2:=zo;have L:=zi ((a.size:Int)<2);have M:=zi ((a.size:Int)-2<(t.size:Int));have N:decide (IntKind.i64.wrap ((a.size:Int)-2)<IntKind.i64.wrap (t.size:Int))=false:=NQ (by rw[IntKind.wrap_i64,IntKind.wrap_i64];omega);have O:(t.size:Int)<=60000:=zo;rw[<-d] at k;have JA:(a.extract 0 2).size<=8:=by simp;omega
 have P:=zh i;clear f g d i;go_enter func370,ntmps370;go_wp2_with fail;refine zJ w 22 (zL [?_,?_,?_,?_,?_,?_,?_,?_,?_,?_,?_,?_,?_,?_,?_,?_,?_,?_,?_,?_,?_,?_]) zq ?_;rotate_right
 iterate 18
  refine zV ?_
 refine aw zk rfl rfl ?_ ?_
 ·intro m c j Q n;have R:=c.2;go_simp;refine zb (pZ (a.extract 0 2) m JA) λo p=>?_;rw[l];exact n.out _ _ zz p
 iterate 3
  refine zV ?_
 refine zD λo c j=>?_
 have q:=H.below c.1;have s:=zh (cR.of_below (u:=u) c.1);clear c j;go_wp2_with fail;refine(eh (sz:=2) q (.inr (.inl rfl)) h ⟨zo,by show(t.size:Int)<65536;omega⟩).mono ?_;rintro e S ⟨rfl,v,x⟩;have y:=zh v;have A:=s.trans x;have B:=zh (show(t.data.toList++r).length<=1000000 by have:=h.out;rw[Nw] at this;omega);go_wp2_with fail;rw[(zm:(t.size:Int)=(t.data.toList.length:Nat))];refine(ud y B).mono ?_;rintro e T ⟨rfl,C,D⟩;have E:=A.trans D;go_wp2;go_ret;exact⟨by first|rfl|(congr 2),C,E⟩
end
def ay.good(r:ay):Prop:=bn r.name=true/\(0<=r.start/\r.start<=1099511627776)/\r.agg.valid=true/\r.agg.ok
def ay.cells(r:ay):List Qn:= [.string r.name,.int .i64 r.start,.int .i64 r.agg.c,.int .i64 r.agg.hi,.int .u64 r.agg.lo,.int .i64 r.agg.mn,.int .i64 r.agg.mx]
def uV(r:ay):List UInt8:=fp r.name++aq (bM r.start) 8++ck r.agg
def fq{s:ByteArray}(a:bn s=true):1<=s.size/\s.size<=15:=by unfold bn at a;simp at a;omega
def oC(t:Int)(w:Qm)(a:0<=t/\t<=1099511627776):Qo zP 268 #[t] w (aK w (.bool true)):=by
 obtain⟨c,d⟩:=a;go_enter func268,ntmps268;go_wp2;go_ret;exact⟨rfl,ND _ _⟩
def qI(r:ay)(w:Qm)(H:Qs r.good):Qo zP 394 #[r.val] w (aK w (.bool true)):=by
 have x:=fq H.1;unfold ay.val;go_enter func394,ntmps394;go_wp2_with fail;refine zb (dw _ [r.name] _ (cG (l:= [r.name]) zm (by rfl) (by intro s a;simp at a;subst a;omega) zm)) λn o=>?_
 rw[show [r.name].all bn=true by rw[PU,H.1];rfl];obtain⟨n1,n2,c⟩:=gE o;obtain⟨c0,d,e,f,g,h,i⟩:=lP n1;have j:=zh c;have p:=zh n1;clear n1 n2 c;go_wp2_with fail;refine zb (oC r.start n H.2.1) λq k=>?_
 have t:=zh (ab p k);have m:=aI j k j.size;clear c0 d e f g h i;obtain⟨c0,d,e,f,g,h,i⟩:=lP t;go_wp2_with fail;refine zb (na _ _ _ _ _ q) λy u=>?_
 rw[show aF.valid ⟨r.agg.c,r.agg.hi,r.agg.lo,r.agg.mn,r.agg.mx⟩=true from H.2.2.1];have v:=aI m u m.size;go_wp2;go_ret;exact⟨rfl,v⟩
def vN(r:ay)(w:Qm)(H:Qs r.good):Qo zP 365 #[r.val] w (aK w (.tuple #[.string (aO (uV r)),()])):=by
 have j:=fq H.1;unfold ay.val;go_enter func365,ntmps365;go_wp2_with fail;refine zb (qI r _ H) λx y=>?_
 obtain⟨n1,n⟩:=bl y;obtain⟨c0,a,c,d,f,g,h⟩:=lP n1;have o:=zh n;have A:=zh n1;clear n1 n;go_wp2_with fail;refine zb (ES r.agg x H.2.2.1 H.2.2.2) λi p=>?_
 have k:=zh (ab A p);have q:=aI o p o.size;clear c0 a c d f g h;obtain⟨c0,a,c,d,f,g,h⟩:=lP k;have J:=aa k;have s:=ef i;go_wp2_with fail;refine(sK i.heap.size (i.heap.size+1) r.name [] _ (s.keep ze) j.2 zm (yj zm) (AN s zm _)).mono ?_;rintro e t ⟨rfl,l,B⟩;have m:=zh (show Qr i.heap.size i t from(ai ze ze).trans B);have C:=zh (ab k m);clear c0 a c d f g h;obtain⟨c0,a,c,d,f,g,h⟩:=lP C;go_wp2_with fail;refine(fi _ _ [r.start] _ _ (l.keep ze) (bH l zm rfl (by have:=H.2.1;simp;omega) zm) (by simp[fS j.2])).mono ?_;rintro e K ⟨rfl,D,E⟩;have u:=m.trans (Below.trans ((ak t _).mono m.size) (E.below (l.keep ze)));clear c0 a c d f g h;go_wp2_with fail;refine zb (fh _ _ _ D) λL F=>?_
 have M:(aO (fp r.name++bd [r.start])).size<=100:=by unfold aO;rw[dA];simp[fS j.2,bd,bc,am]
 have N:(aO (ck r.agg)).size<=100:=by unfold aO;rw[dA];simp[ck,bd,bc,am]
 go_wp2;have I:=zh (show aO (fp r.name++bd [r.start])++aO (ck r.agg)=aO (uV r) from jg (by simp[aO,uV,bd,bc,Pi]));refine NG (v:= .tuple #[.string (aO (fp r.name++bd [r.start])++aO (ck r.agg)),()]) (by simp[results,results365,go_sem]) rfl ⟨by rw[I],aI q (aI u F u.size) q.size⟩
def mm(a l2:List UInt8)(v:Int)(k:Nat)(c:a.length=k)(d:0<=v)(e:v<=18446744073709551615):me (a++(aq v 8++l2)) k=v:=by
 subst c;unfold me;rw[List.drop_left,List.take_left' (am 8 v)]
 exact gM 8 v d (by have:(256:Int)^8=18446744073709551616:=by decide
                    omega)
def ig(x:Int)(a: -9223372036854775808<=x)(c:x<=9223372036854775807):fI (bM x)=x:=by unfold fI bM;split<;>omega
def eX(A:aF):ck A=aq (bM A.c) 8++(aq (bM A.hi) 8++(aq A.lo 8++(aq (bM A.mn) 8++aq (bM A.mx) 8))):=by
 simp[ck,bd,bc]
def eP(A:aF):(ck A).length=40:=by simp[eX,am]
def Ir(A:aF)(g:A.ok):cW (ck A)=A:=by
 obtain⟨c,a,f,d,e⟩:=A;unfold aF.ok at g;dsimp only at g;obtain⟨h,i,j,k,l⟩:=g;have u:=λx:Int=>show 0<=bM x/\bM x<=18446744073709551615 by unfold bM;omega
 have m:me (ck ⟨c,a,f,d,e⟩) 0=bM c:=by rw[eX];exact mm [] _ _ 0 rfl (u _).1 (u _).2
 have n:me (ck ⟨c,a,f,d,e⟩) 8=bM a:=by rw[eX];exact mm _ _ _ 8 (am _ _) (u _).1 (u _).2
 have o:me (ck ⟨c,a,f,d,e⟩) 16=f:=by
  rw[eX,<-NX];exact mm _ _ _ 16 (by simp[am]) j.1 j.2
 have p:me (ck ⟨c,a,f,d,e⟩) 24=bM d:=by
  rw[eX,<-NX,<-NX];exact mm _ _ _ 24 (by simp[am]) (u _).1 (u _).2
 have q:me (ck ⟨c,a,f,d,e⟩) 32=bM e:=by
  have:=mm (aq (bM c) 8++aq (bM a) 8++aq f 8++aq (bM d) 8) [] (bM e) 32 (by simp[am]) (u _).1 (u _).2;rw[OJ] at this;rw[eX,<-NX,<-NX,<-NX];exact this
 unfold cW;rw[m,n,o,p,q,ig c h.1 h.2,ig a i.1 i.2,ig d k.1 k.2,ig e l.1 l.2]
def yl(A:aF)(c:A.ok)(a:A.valid=true):lq (aO (ck A)).data.toList= .tuple #[A.val,()]:=by
 have:(aO (ck A)).data.toList=ck A:=by simp[aO]
 rw[this];unfold lq;rw[Ir A c,NH a,NH a]
def dl(l:List ay):List UInt8:=l.flatMap uV
def mo{r:ay}(c:r.good):(uV r).length=64:=by
 have a:=fq c.1;simp[uV,fS a.2,ck,bd,bc,am]
def fT: ∀{l:List ay},(∀r∈l,r.good)->(dl l).length=64*l.length
 | [],_=>rfl
 |r::l,a=>by
  unfold dl;rw[NZ,Nw,mo (a r zm),show(l.flatMap uV).length=64*l.length from fT (λx c=>a x (by simp[c])),NW];omega
def ds{w:Qm}{a:Option Addr}{n c:Nat}{l:List ay}(g:aB 7 ay.cells w (.slice a n c) l){j:Nat}{r:ay}(h:l[j]?=some r): ∃b o,a=some ⟨b,o,none⟩/\b<w.heap.size/\
 w.cell? ⟨b,o+j*7,none⟩=some (.string r.name)/\w.cell? ⟨b,o+j*7+1,none⟩=some (.int .i64 r.start)/\w.cell? ⟨b,o+j*7+2,none⟩=some (.int .i64 r.agg.c)/\w.cell? ⟨b,o+j*7+3,none⟩=some (.int .i64 r.agg.hi)/\w.cell? ⟨b,o+j*7+4,none⟩=some (.int .u64 r.agg.lo)/\w.cell? ⟨b,o+j*7+5,none⟩=some (.int .i64 r.agg.mn)/\w.cell? ⟨b,o+j*7+6,none⟩=some (.int .i64 r.agg.mx):=by
 obtain⟨b,o,e,f,d⟩:=g.elem (λ_=>rfl) h;exact⟨b,o,e,f,d 0 _ rfl,d 1 _ rfl,d 2 _ rfl,d 3 _ rfl,d 4 _ rfl,d 5 _ rfl,d 6 _ rfl⟩
def gN(a b:List UInt8):aO a++aO b=aO (a++b):=jg (by simp[aO,Pi])
def cv(l:List UInt8):(aO l).size=l.length:=dA l
def Fh{v:Qn}{l:List ay}{w:Qm}(h:aB 7 ay.cells w v l)(j:Qs (∀r∈l,r.good))(K:l.length<=10000):Qo zP 303 #[v] w (aK w (.tuple #[.string (aO (dl l)),()])):=by
 have m:=zh h;obtain⟨a,c,rfl,-,-⟩:=h;go_enter func303,ntmps303;go_wp2_with fail;go_loopw [4,11] (λx i wr=> ∃(k:Nat),k<=l.length/\i= .int .i64 k/\x= .string (aO (dl (l.take k)))/\Qs (Qr w.heap.size w wr)) (λ_ i _=>l.length-(intOf i).toNat)
 case atStart=>exact⟨0,Nx _,rfl,rfl,zh zr⟩
 case round=>
  obtain⟨k,t,rfl,rfl,e⟩:=hrel
  have u:(aO (dl (l.take k))).size<=640000:=by
   rw[cv,fT (λr d=>j r (OO d)),NP];omega
  by_cases f:k<l.length
  ·obtain⟨r,d⟩: ∃r,l[k]?=some r:=⟨_,Np f⟩
   obtain⟨b,o,rfl,y,A,B,C,D,E,F,H⟩:=ds (m.below e) d;have g:=zh (j r (NO d))
   have n:=zh (show dl (l.take (k+1))=dl (l.take k)++uV r by
    unfold dl;rw[OH,d,NK];simp)
   have I:(aO (uV r)).size<=64:=by rw[cv,mo g];omega
   clear d;go_wp2_with fail;refine zb (vN r _ g) λJ p=>?_
   have q:=aI e (ai ze p) e.size;go_wp2;go_roundw
   case rel=>exact⟨k+1,f,by go_num,by rw[n,gN],q⟩
   case measure=>simp[intOf];omega
  ·have s:=zh (show dl (l.take k)=dl l by rw[NC zo])
   go_wp2;go_ret2;exact⟨by rw[s];rfl,e⟩
def Fi{w:Qm}{b:Nat}{T:Qp}{g h i j k l m:Qn}(a c d e f:Qn)(n:w.heap[b]?=some (.cells #[g,h,i,j,k,l,m] T)):(((((w.setCell ⟨b,2,none⟩ a).setCell ⟨b,3,none⟩ c).setCell ⟨b,4,none⟩ d).setCell ⟨b,5,none⟩ e).setCell ⟨b,6,none⟩ f).heap[b]?=some (.cells #[g,h,a,c,d,e,f] T):=by
 rw[al (al (al (al (al n a) c) d) e) f];rfl
def vO{w:Qm}{b:Nat}{T:Qp}{i j k l m n o:Qn}(a c d e f g h:Qn)(p:w.heap[b]?=some (.cells #[i,j,k,l,m,n,o] T)):(((((((w.setCell ⟨b,0,none⟩ a).setCell ⟨b,1,none⟩ c).setCell ⟨b,2,none⟩ d).setCell ⟨b,3,none⟩ e).setCell ⟨b,4,none⟩ f).setCell ⟨b,5,none⟩ g).setCell ⟨b,6,none⟩ h).heap[b]?=some (.cells #[a,c,d,e,f,g,h] T):=by
 rw[al (al (al (al (al (al (al p a) c) d) e) f) g) h];rfl
def Fj{s:ByteArray}{w:Qm}{u:Nat}{l:List UInt8}(a:fj w u 0 s)(c:s.data.toList=l):UL w u l:=by subst c;exact a
def Fk(r:ay)(w:Qm)(i:r.good):Qo zP 420 #[.string (aO (uV r))] w (aK w (.tuple #[r.val,()])):=by
 have H:=zh i;have n:=fq i.1;have p:(aO (uV r)).size=64:=by rw[cv,mo i]
 have Y:(aO (uV r)).size<=100:=zo;have Z:=zh p;clear i p;obtain⟨s,j⟩:=zy (aO (uV r));rw[<-j] at Z Y⊢;go_enter func420,ntmps420;go_wp2_with fail;refine(gV s _ zo).mono ?_;rintro e q ⟨u,rfl,t,a0,a1⟩;obtain⟨n0,x⟩:=bl a1;have a2:=zh n0;have y:=zh x;have A:=zh (Fj (l:=fp r.name++(aq (bM r.start) 8++ck r.agg)) a0 (by rw[j];simp[aO,uV]));have a3:=aa n0
 have a4:w.heap.size<u:=by have:w.heap.size+1<=u:=by simpa using t
                           omega
 clear n0 x t;go_wp2_with fail;refine(Iq A n (by simp[fS n.2,eP,am])).mono ?_;rintro e d0 ⟨rfl,a5,a6⟩;go_wp2_with fail;refine(qH a5 (by simp[eP,am]) (by have:=H.2.1;unfold aQ;omega)).mono ?_;rintro e c ⟨rfl,a7,a8⟩;have B:=a6.trans a8;go_wp2_with fail;refine(Ip (a7.below ze) (by rw[eP];omega)).mono ?_;rintro e C ⟨rfl,d1,D⟩;have d2:u<q.heap.size:=A.lt;have d3:=B.size;have a9:=zh ((D.block c.heap.size zm zo).trans (ag rfl));have b0:=zh (show cR u q C from B.trans ((cR.of_below ze).trans D));go_wp2_with fail;refine zb (EU (aO (ck r.agg)) C (by rw[cv,eP])) λb1 k=>?_
 rw[yl r.agg H.2.2.2 H.2.2.1];have d:=zh (ab a9 k);have E:=b0.fresh k;obtain⟨F,I,J,K,L,M,N⟩:=lP d;have O:=ad (o:=2) d;have P:=ad (o:=3) d;have Q:=ad (o:=4) d;have R:=ad (o:=5) d;have S:=ad (o:=6) d;have d4:=aa d;have d5:=k.size;dsimp only[aF.val];go_wp2_with fail;obtain⟨h,f⟩:=zx ((((((b1.setCell ⟨c.heap.size,2,none⟩ (.int .i64 r.agg.c)).setCell ⟨c.heap.size,3,none⟩ (.int .i64 r.agg.hi)).setCell ⟨c.heap.size,4,none⟩ (.int .u64 r.agg.lo)).setCell ⟨c.heap.size,5,none⟩ (.int .i64 r.agg.mn)).setCell ⟨c.heap.size,6,none⟩ (.int .i64 r.agg.mx)).alloc (.cells #[(r.agg.c:Int),(r.agg.hi:Int),.int .u64 r.agg.lo,(r.agg.mn:Int),(r.agg.mx:Int)] 63));rw[<-f];have T:h.heap[c.heap.size]?=some (.cells #[r.name,(r.start:Int),(r.agg.c:Int),(r.agg.hi:Int),.int .u64 r.agg.lo,(r.agg.mn:Int),(r.agg.mx:Int)] 65):=by rw[f];exact ab (Fi _ _ _ _ _ d) ze
 have g:w.heap.size≠c.heap.size:=zo;have U:=(E.block w.heap.size a3 zo).trans a2
 have V:h.heap[w.heap.size]?=some (.cells #[.string ⟨#[]⟩,(),(),(),.int .u64 0,(),()] 65):=by
  rw[f];refine ab ?_ ze;rw[af _ g,af _ g,af _ g,af _ g,af _ g];exact U
 have W:=zh (show Qr w.heap.size w h by
  rw[f];exact aL (ao (ao (ao (ao (ao (y.trans (E.below zo|>.mono (Oc a4))) (by dsimp only;omega)) (by dsimp only;omega)) (by dsimp only;omega)) (by dsimp only;omega)) (by dsimp only;omega)) (by have:=y.size;simp;omega))
 have b2:=zh T;have b3:=zh V;clear T V f U F I J K L M N O P Q R S;refine zb (vN r h H) λw7 m=>?_
 rw[<-j];have X:=zh (ab b2 m);have a:=zh (ab b3 m);have b4:=aI W m W.size;obtain⟨F,I,J,K,L,M,N⟩:=lP X;obtain⟨b5,b6,b7,b8,b9,c1,c2⟩:=lP a;have d6:=ad (o:=0) a;have d7:=ad (o:=1) a;have O:=ad (o:=2) a;have P:=ad (o:=3) a;have Q:=ad (o:=4) a;have R:=ad (o:=5) a;have S:=ad (o:=6) a;have d8:=aa X;have d9:=aa a;go_wp2;have hq:=vO (.string r.name) (.int .i64 r.start) (.int .i64 r.agg.c) (.int .i64 r.agg.hi) (.int .u64 r.agg.lo) (.int .i64 r.agg.mn) (.int .i64 r.agg.mx) a;obtain⟨c3,c4,c5,c6,c7,c8,c9⟩:=lP hq;clear b5 b6 b7 b8 b9 c1 c2;refine NG (v:= .tuple #[.agg #[r.name,(r.start:Int),(r.agg.c:Int),(r.agg.hi:Int),.int .u64 r.agg.lo,(r.agg.mn:Int),(r.agg.mx:Int)],()]) (by simp[results,results420,go_sem,c3,c4,c5,c6,c7,c8,c9]) rfl ⟨rfl,?_⟩;exact ao (ao (ao (ao (ao (ao (ao b4 zl) zl) zl) zl) zl) zl) zl
def jW:(zP.info? 65).map (λi=>(i.zero,i.size,i.bytes))=some (some (.agg #[ByteArray.empty,(),(),(),.int .u64 0,(),()]),7,64):=zk
def Fl(a b c:List UInt8):((a++(b++c)).take (a.length+b.length)).drop a.length=b:=by
 rw[List.drop_take,Nat.add_sub_cancel_left,List.drop_left,List.take_left]
def Fm{l:List ay}(f: ∀r∈l,r.good){k:Nat}{r:ay}(c:l[k]?=some r):(aO (dl l)).extract (64*k) (64*k+64)=aO (uV r):=by
 refine jg ?_;rw[bK];have d:=(Ny.1 c).1
 have e:dl l=dl (l.take k)++(uV r++dl (l.drop (k+1))):=by
  have a:l=l.take k++r::l.drop (k+1):=by
   rw[<-(Ny.1 c).2,<-Oo d,Po]
  have g:dl l=dl (l.take k++r::l.drop (k+1)):=by rw[<-a]
  rw[g];unfold dl;rw[NK,NZ]
 have h:(dl (l.take k)).length=64*k:=by rw[fT (λx i=>f x (OO i)),NP,OY (Oc d)]
 have a:=mo (f r (NO c));show((dl l).toArray.toList.take (64*k+64)).drop (64*k)=(uV r).toArray.toList;rw[List.toList_toArray,List.toList_toArray,e];have:=Fl (dl (l.take k)) (uV r) (dl (l.drop (k+1)))
 rwa [h,a] at this
def Kj(w:Qm)(l:List ay)(e:Qq)(w':Qm):Prop:= ∃v,e= .returned (.tuple #[v,()])/\Qs (aB 7 ay.cells w' v l)/\Qs (iX w.heap.size v)/\Qs (Qr w.heap.size w w')
def Fn(l:List ay)(w:Qm)(j:Qs (∀r∈l,r.good))(X:l.length<=10000):Qo zP 371 #[.string (aO (dl l))] w (Kj w l):=by
 have f:=cv (dl l);rw[fT j] at f;obtain⟨D,E,F,H,I⟩:=info_parts jW;have m:=zh (λk r (d:l[k]?=some r)=>Fm j d);obtain⟨s,n⟩:=zx (aO (dl l));rw[<-n] at f m⊢;have a:(s.size:Int)=64*l.length:=zo;have S:((s.size:Int)%64 !=0)=false:=by rw[a,Int.mul_emod_right];rfl
 have T:s.size<=640000:=zo;have o:=zh f;clear f n a;go_enter func371,ntmps371;go_wp2_with fail;go_loopw [4,5] (λv i wr=> ∃(k:Nat),k<=l.length/\i= .int .i64 (64*k:Nat)/\Qs (wr.ownsRow w.heap.size 65 7 v (l.take k).length ((l.take k).flatMap ay.cells))/\Qs (Qr w.heap.size w wr)) (λ_ i _=>s.size-(intOf i).toNat)
 case atStart=>exact⟨0,Nx _,rfl,zh (by simpa using World.ownsRow_nil _ _ _ _),zh zr⟩
 case round=>
  obtain⟨k,g,rfl,p,h⟩:=hrel;have U:(l.take k).length=k:=by rw[NP];omega
  by_cases q:k<l.length
  ·obtain⟨r,d⟩: ∃r,l[k]?=some r:=⟨_,Np q⟩
   have J:=zh (m k r d);have K:=zh (j r (NO d));have L:=zh (show l.take (k+1)=l.take k++ [r] by rw[OH,d];rfl);have a:=o.out;have M:64*k<s.size:=zo;have V:64*k+64<=s.size:=zo;have N:=zh a;clear d a;go_wp2_with fail;rw[J];refine zb (Fk r _ K) λW t=>?_
   have u:=aS p t;have e:=aI h t h.size;dsimp only[ay.val];go_wp2_with (at_builtin;refine ci (enc:=ay.cells) rfl _ _ 59 rfl w.heap.size 65 D _ 64 underlying59 E F H I rfl zd _ _ _ _ [r] rfl ((u.alloc _).alloc _) rfl (bC 7 (c:=1) (l:= [r]) (ag zm) rfl ⟨Nt 1,zd⟩) (λ_=>rfl) ?qc1 ?qc2 zd ?qc3 ?_)
   case qc1=>intro x y A;simp only[ay.cells,NL,NJ,Ou] at A;rcases A with rfl|rfl|rfl|rfl|rfl|rfl|rfl<;>rfl
   case qc2=>simp;omega
   case qc3=>have:=e.size;simp;omega
   intro v' O B C;have P:=zh (show O.ownsRow w.heap.size 65 7 v' (l.take (k+1)).length ((l.take (k+1)).flatMap ay.cells) by rw[L];simpa[OY g] using B);have Q:=zh (((e.alloc e.size _).alloc (by have:=e.size;simp;omega) _).grown C (by have:=e.size;simp;omega) (λk g=>(World.ownsRow.lt u k g).1));clear B C;go_wp2;go_roundw
   case rel=>exact⟨k+1,q,by go_num,P,Q⟩
   case measure=>simp[intOf];omega
  ·have R:=zh (show l.take k=l by rw[NC zo])
   have a:=o.out;have M:s.size<=64*k:=zo;have N:=zh a;clear a;go_wp2;go_ret2;have:=p.out;rw[R] at this;exact⟨_,rfl,(aB.own this).1,cP this,h⟩
structure ba where
 name:ByteArray
 time:Int
 value:Int
def ba.cells(s:ba):List Qn:= [.string s.name,.int .i64 s.time,.int .i64 s.value]
def ba.val(s:ba):Qn:= .agg #[s.name,(s.time:Int),(s.value:Int)]
def ba.good(s:ba):Prop:=bn s.name=true/\(0<=s.time/\s.time<=1099511627776)/\aQ s.value
def mq(s:ba):List UInt8:=fp s.name++aq (bM s.time) 8++aq (bM s.value) 8
def eS(l:List ba):List UInt8:=l.flatMap mq
def nB{s:ba}(c:s.good):(mq s).length=32:=by
 have a:=fq c.1;simp[mq,fS a.2,am]
def ly: ∀{l:List ba},(∀r∈l,r.good)->(eS l).length=32*l.length
 | [],_=>rfl
 |r::l,a=>by
  unfold eS;rw[NZ,Nw,nB (a r zm),show(l.flatMap mq).length=32*l.length from ly (λx c=>a x (by simp[c])),NW];omega
def Ct(r:ba)(w:Qm)(H:Qs r.good):Qo zP 189 #[r.val] w (aK w (.tuple #[.string (aO (mq r)),()])):=by
 have i:=fq H.1;unfold ba.val;go_enter func189,ntmps189;go_wp2_with fail;refine zb (dw _ [r.name] _ (cG (l:= [r.name]) zm (by rfl) (by intro s j;simp at j;subst j;omega) zm)) λu v=>?_
 rw[show [r.name].all bn=true by rw[PU,H.1];rfl];obtain⟨n1,n2,k⟩:=gE v;obtain⟨c0,a,c⟩:=aW n1;have m:=zh k;have x:=zh n1;clear n1 n2 k;go_wp2_with fail;refine zb (oC r.time u H.2.1) λd n=>?_
 have f:=zh (ab x n);have o:=aI m n m.size;clear c0 a c;obtain⟨c0,a,c⟩:=aW f;have F:=aa f;have p:=ef d;go_wp2_with fail;refine(sK d.heap.size (d.heap.size+1) r.name [] _ (p.keep ze) i.2 zm (yj zm) (AN p zm _)).mono ?_;rintro e q ⟨rfl,g,y⟩;have h:=zh (show Qr d.heap.size d q from(ai ze ze).trans y);have A:=zh (ab f h);clear c0 a c;obtain⟨c0,a,c⟩:=aW A;go_wp2_with fail;refine(fi _ _ [r.time,r.value] _ _ (g.keep ze) (bH g zm rfl (by have:=H.2.1;have:=H.2.2;unfold aQ at this;simp;omega) zm) (by simp[fS i.2])).mono ?_;rintro e I ⟨rfl,B,C⟩;have t:=h.trans (Below.trans ((ak q _).mono h.size) (C.below (g.keep ze)));clear c0 a c;go_wp2_with fail;refine zb (fh _ _ _ B) λJ D=>?_
 have E:=zh (show []++fp r.name++bd [r.time,r.value]=mq r by simp[mq,bd,bc]);rw[E];go_wp2;go_ret2;exact⟨rfl,aI o (aI t D t.size) o.size⟩
def ym{w:Qm}{a:Option Addr}{n c:Nat}{l:List ba}(g:aB 3 ba.cells w (.slice a n c) l){j:Nat}{r:ba}(h:l[j]?=some r): ∃b o,a=some ⟨b,o,none⟩/\b<w.heap.size/\
 w.cell? ⟨b,o+j*3,none⟩=some (.string r.name)/\w.cell? ⟨b,o+j*3+1,none⟩=some (.int .i64 r.time)/\w.cell? ⟨b,o+j*3+2,none⟩=some (.int .i64 r.value):=by
 obtain⟨b,o,e,f,d⟩:=g.elem (λ_=>rfl) h;exact⟨b,o,e,f,d 0 _ rfl,d 1 _ rfl,d 2 _ rfl⟩
def nC{v:Qn}{l:List ba}{w:Qm}(h:aB 3 ba.cells w v l)(j:Qs (∀r∈l,r.good))(F:l.length<=10000):Qo zP 123 #[v] w (aK w (.tuple #[.string (aO (eS l)),()])):=by
 have m:=zh h;obtain⟨a,c,rfl,-,-⟩:=h;go_enter func123,ntmps123;go_wp2_with fail;go_loopw [4,11] (λx i wr=> ∃(k:Nat),k<=l.length/\i= .int .i64 k/\x= .string (aO (eS (l.take k)))/\Qs (Qr w.heap.size w wr)) (λ_ i _=>l.length-(intOf i).toNat)
 case atStart=>exact⟨0,Nx _,rfl,rfl,zh zr⟩
 case round=>
  obtain⟨k,t,rfl,rfl,e⟩:=hrel
  have u:(aO (eS (l.take k))).size<=640000:=by
   rw[cv,ly (λr d=>j r (OO d)),NP];omega
  by_cases f:k<l.length
  ·obtain⟨r,d⟩: ∃r,l[k]?=some r:=⟨_,Np f⟩
   obtain⟨b,o,rfl,y,A,B,C⟩:=ym (m.below e) d;have g:=zh (j r (NO d))
   have n:=zh (show eS (l.take (k+1))=eS (l.take k)++mq r by
    unfold eS;rw[OH,d,NK];simp)
   have D:(aO (mq r)).size<=64:=by rw[cv,nB g];omega
   clear d;go_wp2_with fail;refine zb (Ct r _ g) λE p=>?_
   have q:=aI e (ai ze p) e.size;go_wp2;go_roundw
   case rel=>exact⟨k+1,f,by go_num,by rw[n,gN],q⟩
   case measure=>simp[intOf];omega
  ·have s:=zh (show eS (l.take k)=eS l by rw[NC zo])
   go_wp2;go_ret2;exact⟨by rw[s];rfl,e⟩
def lz(a n:Int)(l:List ba):Prop:=(a=1/\n=0/\1<=l.length/\l.length<=8/\ ∀s∈l,s.good)\/(a=2/\0<=n/\n<=1099511627776/\l= [])
def lz.good{a n:Int}{l:List ba}(e:lz a n l):(∀s∈l,s.good)/\l.length<=8/\aQ n/\(a=1\/a=2):=by
 rcases e with⟨rfl,rfl,_,c,d⟩|⟨rfl,f,g,rfl⟩
 ·exact⟨d,c,by unfold aQ;omega,.inl rfl⟩
 ·exact⟨zm,zm,by unfold aQ;omega,.inr rfl⟩
def HF(a n:Int)(l:List ba):List UInt8:=aq a 1++aq l.length 1++aq (bM n) 8++eS l
def yn{v:Qn}{k n:Int}{l:List ba}{w:Qm}(m:aB 3 ba.cells w v l)(o:lz k n l):Qo zP 122 #[.agg #[k,n,v]] w (aK w (.bool true)):=by
 have h:=zh m;obtain⟨i,p,y,-⟩:=o.good;have j:=zh i;obtain⟨a,c,rfl,-,-⟩:=m;clear i;rcases o with⟨rfl,rfl,e,-,-⟩|⟨rfl,q,e,rfl⟩
 ·have A:(1:Int)<=l.length:=zo
  have B:(l.length:Int)<=8:=zo;have r:decide (1<=l.length)=true:=NV e;have s:decide (l.length<=8)=true:=NV p;go_enter func122,ntmps122;go_wp2_with fail;refine zb (nC (h.below ze) j zo) λt f=>?_
  obtain⟨n1,d⟩:=bl f;obtain⟨c0,u,x⟩:=aW n1;have g:=zh d;clear n1 d;go_wp2;go_ret;exact⟨rfl,g⟩
 ·have r:decide (0<=n)=true:=NV q
  have s:decide (n<=1099511627776)=true:=NV e;go_enter func122,ntmps122;go_wp2_with fail;refine zb (nC (h.below ze) j zo) λt f=>?_
  obtain⟨n1,d⟩:=bl f;obtain⟨c0,u,x⟩:=aW n1;have g:=zh d;clear n1 d;go_wp2;go_ret;exact⟨rfl,g⟩
def yo{v:Qn}{d n:Int}{l:List ba}{w:Qm}(F:aB 3 ba.cells w v l)(H:Qs (lz d n l)):Qo zP 68 #[.agg #[d,n,v]] w (aK w (.tuple #[.string (aO (HF d n l)),()])):=by
 have q:=zh F;obtain⟨r,R,s,t⟩:=H.good;have u:=zh r;have I:=zh s;have x:=zh t;obtain⟨a,c,rfl,-,-⟩:=F;clear r s t;go_enter func68,ntmps68;go_wp2_with fail;refine zb (yn (q.below ze) H) λS J=>?_
 obtain⟨n1,y⟩:=bl J;obtain⟨c0,f,g⟩:=aW n1;have j:=zh y;have K:=zh n1;clear n1 y;go_wp2_with fail;refine zb (nC (q.below j) u zo) λh A=>?_
 have k:=zh (ab K A);have B:=aI j A j.size;clear c0 f g;obtain⟨c0,f,g⟩:=aW k;have T:=aa k;have m:=ef h;go_wp2_with fail;refine(dC h.heap.size 1 _ [d,l.length] [] _ (m.keep ze) (bH m zm rfl (by have:=x.out;simp;omega) zm) (.inr (.inr rfl)) (by have:=x.out;simp[rQ];omega) zm).mono ?_;rintro e C ⟨rfl,o,L⟩;have p:=zh (show Qr h.heap.size h C from(ai ze ze).trans (L.below (m.keep ze)));have M:=zh (ab k p);clear c0 f g;obtain⟨c0,f,g⟩:=aW M;go_wp2_with fail;refine(fi _ _ [n] _ _ (o.keep ze) (bH o zm rfl (by have:=I.out;unfold aQ at this;simp;omega) zm) (by simp[aY])).mono ?_;rintro e U ⟨rfl,N,O⟩;have D:=p.trans (Below.trans ((ak C _).mono p.size) (O.below (o.keep ze)));clear c0 f g;go_wp2_with fail;refine zb (fh _ _ _ N) λV P=>?_
 obtain⟨E,i⟩:=zx ([]++aV 1 [d,(l.length:Int)]++bd [n]);have W:(aO E).size<=100:=by rw[cv,i];simp[aY,ca]
 have X:(aO (eS l)).size<=320:=by rw[cv,ly u];omega
 have Q:=zh (show aO E++aO (eS l)=aO (HF d n l) by rw[gN,i];simp[HF,aV,bd,bc]);rw[<-i];clear i;go_wp2;go_ret2;exact⟨by rw[<-Q];rfl,aI B (aI D P D.size) B.size⟩
def ue{w:Qm}{b:Nat}{T:Qp}{a c d e f g:Qn}(h:w.heap[b]?=some (.cells #[a,c,d,e,f,g] T)):
 w.cell? ⟨b,0,none⟩=some a/\w.cell? ⟨b,1,none⟩=some c/\w.cell? ⟨b,2,none⟩=some d/\w.cell? ⟨b,3,none⟩=some e/\w.cell? ⟨b,4,none⟩=some f/\w.cell? ⟨b,5,none⟩=some g:=by
 refine⟨?_,?_,?_,?_,?_,?_⟩<;>(rw[NA w b _ _ _ _ h];rfl)
def sL(n:Nat):Nat:=(n+2)/3
def jX(n:Nat)(w:Qm)(f:n<=1000000):Qo zP 332 #[(n:Int)] w (aK w (.int .i64 (sL n))):=by
 have d:(n:Int)<=1000000:=zo;by_cases a:n=0
 ·subst a
  go_enter func332,ntmps332;go_wp2;go_ret;exact⟨rfl,ND _ _⟩
 ·have e:(1:Int)<=n:=zo
  have c:((sL n:Nat):Int)=((n:Int)-1)/3+1:=by unfold sL;omega
  rw[c];clear a c;go_enter func332,ntmps332;go_wp2;go_ret;exact⟨rfl,ND _ _⟩
def fJ(id tier shard:Int):Prop:=0<id/\id<=18446744073709551615/\0<=tier/\tier<10/\0<=shard/\shard<8
def qJ{id tier shard:Int}(w:Qm)(a:fJ id tier shard):Qo zP 393 #[.int .u64 id,tier,shard] w (aK w (.bool true)):=by
 obtain⟨c,d,e,f,g,h⟩:=a;go_enter func393,ntmps393;go_wp2;go_ret;exact⟨rfl,ND _ _⟩
def qK(id tier shard a of n:Int):List UInt8:= [83,69,71,77]++(bc [id]++aV 1 [tier,shard]++aV 2 [a,of,n]++List.replicate 28 0)
def mr(id tier shard a of n:Int):(qK id tier shard a of n).length=48:=by simp[qK,aY,aU]
def dF(x:Int):Prop:=0<=x/\x<65536
def sM{id tier shard a of n:Int}(w:Qm)(H:Qs (fJ id tier shard))(E:Qs (dF a))(F:Qs (dF of))(I:Qs (dF n)):Qo zP 426 #[.agg #[.int .u64 id,tier,shard,a,of,n]] w (aK w (.string (aO (qK id tier shard a of n)))):=by
 go_enter func426,ntmps426;obtain⟨c,d⟩:=zx (w.alloc (.cells #[.int .u64 id,tier,shard,a,of,n] 474));have v:c.heap[w.heap.size]?=some (.cells #[.int .u64 id,tier,shard,a,of,n] 474):=by rw[d];exact ag rfl
 have f:=zh (show c.heap.size=w.heap.size+1 by rw[d];simp);have x:=zh (show Qr w.heap.size w c by rw[d];exact ak _ _);have i:=ef c;rw[f] at i;have j:=zh i;have W:=zh (ab v (ak _ (.cells #[(),z0] 215)));have y:w.heap.size<w.heap.size+1:=zo;clear v i;go_wp2_with fail;rw[<-d];refine(fN _ _ [id] [] _ (j.keep ze) (dv j (by simp[f.out]) rfl (by have:=H.out;unfold fJ at this;simp;omega)) zm).mono ?_;rintro e k ⟨rfl,l,J⟩;have g:=zh (show Qr (w.heap.size+1) c k from(show Qr (w.heap.size+1) c _ by rw[<-f];exact ai ze ze).trans (J.below (j.keep ze)));have m:=(g.block _ y).trans (by rw[d];exact ag rfl:c.heap[w.heap.size]?=some (.cells #[.int .u64 id,tier,shard,a,of,n] 474));obtain⟨c0,o,p,q,r,s⟩:=ue m;have K:=zh m;clear m;go_wp2_with fail;refine(dC _ 1 _ [tier,shard] _ _ (l.keep ze) (bH l zm rfl (by have:=H.out;unfold fJ at this;simp;omega) zm) (.inr (.inr rfl)) (by have:=H.out;unfold fJ at this;simp[rQ];omega) (by simp[aU])).mono ?_;rintro e A ⟨rfl,t,L⟩;have u:=zh (show Qr (w.heap.size+1) k A from((ak k _).mono (by have:=g.size;have:=f.out;omega)).trans (L.below (l.keep ze)));have M:=zh ((u.block _ y).trans K);clear c0 o p q r s;obtain⟨c0,o,p,q,r,s⟩:=ue M;go_wp2_with fail;refine(dC _ 2 _ [a,of,n] _ _ (t.keep ze) (bH t zm rfl (by have:=E.out;have:=F.out;have:=I.out;unfold dF at*;simp;omega) zm) (.inr (.inl rfl)) (by have:=E.out;have:=F.out;have:=I.out;unfold dF at*;simp[rQ];omega) (by simp[aU,aY])).mono ?_;rintro e N ⟨rfl,B,O⟩;have P:=zh (show Qr (w.heap.size+1) c N from g.trans (u.trans (((ak A _).mono (by have:=g.size;have:=u.size;have:=f.out;omega)).trans (O.below (t.keep ze)))));clear c0 o p q r s;go_wp2_with fail;refine(iD _ 44 _ _ B zo (by simp[aU,aY])).mono ?_;rintro e Q ⟨rfl,R,S⟩;have C:=zh (show Qr (w.heap.size+1) c Q from P.trans (S.below B));go_wp2_with fail;refine zb (fh _ _ _ R) λw7 T=>?_
 have U:=aI (x.trans (C.mono zo)) T (by have:=C.size;have:=x.size;omega);obtain⟨D,h⟩:=zx ([]++bc [id]++aV 1 [tier,shard]++aV 2 [a,of,n]++List.replicate (44-([]++bc [id]++aV 1 [tier,shard]++aV 2 [a,of,n]).length) 0)
 have V:=zh (show(⟨#[83,69,71,77]⟩:ByteArray)++aO D=aO (qK id tier shard a of n) by
  rw[h,show(⟨#[83,69,71,77]⟩:ByteArray)=aO [83,69,71,77] from rfl,gN];simp[qK,aY,aU])
 have X:(aO D).size<=100:=by rw[cv,h];simp[aY,aU]
 rw[<-h];clear h;go_wp2;go_ret;exact⟨by rw[<-V];rfl,U⟩
def fs(id tier shard a of:Int)(l:List ay):List UInt8:=qK id tier shard a of l.length++dl l++List.replicate (208-64*l.length) 0
def jY{id tier shard a of:Int}{l:List ay}(c: ∀r∈l,r.good)(d:l.length<=3):(fs id tier shard a of l).length=256:=by
 simp[fs,mr,fT c];omega
def Fo{v:Qn}{l:List ay}{id tier shard d of n:Int}(w:Qm)(D:aB 7 ay.cells w v l)(E: ∀r∈l,r.good)(b5:l.length<=3)(F:n=l.length)(I:fJ id tier shard)(J:dF d)(K:dF of):
 Qo zP 396 #[.agg #[.int .u64 id,tier,shard,d,of,n],v] w (aK w (.string (aO (fs id tier shard d of l)))):=by
 have H:=zh I;have L:=zh J;have M:=zh K;have N:=zh D;have q:=zh E;have O:=zh (show dF n by unfold dF;omega);have P:=zh F;obtain⟨a,c,rfl,-,-⟩:=D;obtain⟨i,f⟩:=zx (w.alloc (.cells #[.int .u64 id,tier,shard,d,of,n] 474));have Q:=zh (show i.heap[w.heap.size]?=some (.cells #[.int .u64 id,tier,shard,d,of,n] 474) by rw[f];exact ag rfl);have a3:=zh (show i.heap.size=w.heap.size+1 by rw[f];simp);have j:=zh (show Qr w.heap.size w i by rw[f];exact ak _ _);clear I J K E F;go_enter func396,ntmps396;go_wp2_with fail;rw[<-f];refine zb (Fh (N.below j) q zo) λk s=>?_
 have t:=zh (ab Q s);have B2:=aI j s j.size;have a4:=aa t;have u:=ef k;have R:=fT q;obtain⟨x,m⟩:=zx (dl l);rw[<-m] at R⊢;have a5:(aO x).size=64*l.length:=by rw[cv];omega
 have S:=zh m;clear m;go_wp2_with fail;obtain⟨o,y⟩:=zx (208-64*l.length);rw[(zo:(208:Int)-64*l.length=(o:Int))];refine(iD _ o [] _ u zo zm).mono ?_;rintro e T ⟨rfl,U,V⟩;have A:=zh (show Qr k.heap.size k T from ze.trans (V.below u));have W:=zh y;go_wp2_with fail;refine zb (fh _ _ _ U) λa6 X=>?_
 obtain⟨B,g⟩:=zx ([]++List.replicate (o-([]:List UInt8).length) (0:UInt8));have a7:(aO B).size<=208:=by rw[cv,g];simp;omega
 have Y:=zh g;rw[<-g];have p:=aI A X A.size;have Z:=zh (ab t p);clear g y;obtain⟨c0,a8,a9,b0,b1,b2⟩:=ue Z;go_wp2_with fail;refine zb (sM _ H L M O) λb3 a0=>?_
 have a1:=aI B2 (aI p a0 p.size) B2.size;obtain⟨C,h⟩:=zx (qK id tier shard d of n);have b4:(aO C).size=48:=by rw[cv,h,mr]
 have a2:=zh (show aO C++aO x++aO B=aO (fs id tier shard d of l) by
  rw[gN,gN,h,S,Y,W,P];simp[fs])
 rw[<-h];clear h;go_wp2;go_ret;exact⟨by rw[<-a2];rfl,a1⟩
def Fp{w:Qm}{b:Nat}{T:Qp}{h i j k l m:Qn}(a c d e f g:Qn)(n:w.heap[b]?=some (.cells #[h,i,j,k,l,m] T)):((((((w.setCell ⟨b,0,none⟩ a).setCell ⟨b,1,none⟩ c).setCell ⟨b,2,none⟩ d).setCell ⟨b,3,none⟩ e).setCell ⟨b,4,none⟩ f).setCell ⟨b,5,none⟩ g).heap[b]?=some (.cells #[a,c,d,e,f,g] T):=by
 rw[al (al (al (al (al (al n a) c) d) e) f) g];rfl
def AP{m n:Nat}(a b c:List UInt8)(d:a.length=m)(e:n=m+b.length):((a++(b++c)).take n).drop m=b:=by
 subst d e;rw[List.take_append,NC zo,List.drop_left,(zo:a.length+b.length-a.length=b.length),List.take_left]
def Cu{id tier shard c of:Int}{l:List ay}(w:Qm)(X: ∀r∈l,r.good)(C:1<=l.length)(Y:l.length<=3)(Z:fJ id tier shard)(h0:0<=c)(e4:c<of)(e5:of<=4096):
 Qo zP 421 #[.string (aO (fs id tier shard c of l))] w (aK w (.tuple #[.agg #[.int .u64 id,tier,shard,c,of,(l.length:Int)],()])):=by
 have H:=zh Z;have L:=zh (show dF c by unfold dF;omega);have M:=zh (show dF of by unfold dF;omega);have a0:(l.length:Int)=(l.length:Int):=rfl;obtain⟨n,B⟩:=zx (l.length:Int);rw[<-B];have N:=zh (show dF n by unfold dF;omega);have a1:1<=n:=zo;have a2:n<=3:=zo;have O:=zh B;clear B a0;obtain⟨s,i⟩:=zx (aO (fs id tier shard c of l));have e6:s.size=256:=by rw[i,cv,jY X Y]
 have a3:=zh (show(s.extract 4 48).data.toList=aq id 8++(aq tier 1++(aq shard 1++(aq c 2++(aq of 2++(aq n 2++List.replicate 28 0))))) by
  rw[bK,i,O];have e:(aO (fs id tier shard c of l)).data.toList= [83,69,71,77]++((aq id 8++(aq tier 1++(aq shard 1++(aq c 2++(aq of 2++(aq l.length 2++List.replicate 28 0))))))++(dl l++List.replicate (208-64*l.length) 0)):=by simp[aO,fs,qK,bc,aV]
  rw[e];exact AP _ _ _ rfl (by simp[am]))
 have a4:=zh (show s.extract 0 48=aO (qK id tier shard c of n) by
  refine jg ?_;rw[bK,i,O];simp[aO,fs,mr])
 have e7:(s.extract 4 48).size<=100:=by rw[OD];omega
 rw[<-i];clear i Z X Y C;go_enter func421,ntmps421;go_wp2_with fail;refine(gV (s.extract 4 48) _ zo).mono ?_;rintro e f ⟨u,rfl,P,a5,a6⟩;obtain⟨n0,Q⟩:=bl a6;have a7:=zh n0;have a8:=zh Q;have R:=zh (Fj a5 a3);have C:=aa n0
 have a9:w.heap.size<u:=by have:w.heap.size+1<=u:=by simpa using P
                           omega
 have S:=zh H.out;clear n0 Q P;go_wp2_with fail;refine(pz R (by simp[am]) (by have:=H.out;unfold fJ at this;omega)).mono ?_;rintro e D ⟨rfl,b0,b1⟩;go_wp2_with fail;refine(eh b0 (.inr (.inr rfl)) (by simp[am]) (by have:=H.out;unfold fJ at this;simp[rQ];omega)).mono ?_;rintro e e8 ⟨rfl,b2,b3⟩;have b4:=zh (b1.trans b3);go_wp2_with fail;refine(eh b2 (.inr (.inr rfl)) (by simp[am]) (by have:=H.out;unfold fJ at this;simp[rQ];omega)).mono ?_;rintro e e9 ⟨rfl,b5,b6⟩;have b7:=zh (b4.trans b6);go_wp2_with fail;refine(eh b5 (.inr (.inl rfl)) (by simp[am]) (by have:=L.out;unfold dF at this;simp[rQ];omega)).mono ?_;rintro e f0 ⟨rfl,b8,b9⟩;have c1:=zh (b7.trans b9);go_wp2_with fail;refine(eh b8 (.inr (.inl rfl)) (by simp[am]) (by have:=M.out;unfold dF at this;simp[rQ];omega)).mono ?_;rintro e f1 ⟨rfl,c2,c3⟩;have c4:=zh (c1.trans c3);go_wp2_with fail;refine(eh c2 (.inr (.inl rfl)) (by simp[am]) (by have:=N.out;unfold dF at this;simp[rQ];omega)).mono ?_;rintro e w7 ⟨rfl,f2,c5⟩;have E:=zh (c4.trans c5);go_wp2_with fail;obtain⟨k,m⟩:=zx (w7.alloc (.cells #[.int .u64 id,tier,shard,c,of,(n:Int)] 474));have p:k.heap[w7.heap.size]?=some (.cells #[.int .u64 id,tier,shard,c,of,(n:Int)] 474):=by rw[m];exact ag rfl
 have F:Qr w7.heap.size w7 k:=by rw[m];exact ak _ _
 rw[<-m];have f3:u<f.heap.size:=R.lt;have c6:=zh (ab ((E.block w.heap.size C zo).trans a7) F);have T:=zh (show Qr w.heap.size w k from aI (a8.trans (E.below zo|>.mono (Oc a9))) F (by have:=E.size;omega));obtain⟨c0,q,t,x,y,A⟩:=ue p;have f4:=aa p;have c7:=zh p;clear m F p;have f5:decide (c<of)=true:=NV e4;have f6:decide (of<=4096)=true:=NV e5;have f7:decide (1<=n)=true:=NV a1;have f8:decide (n<=3)=true:=NV a2;refine zJ k 37 (zL [?_,?_,?_,?_,?_,?_,?_,?_,?_,?_,?_,?_,?_,?_,?_,?_,?_,?_,?_,?_,?_,?_,?_,?_,?_,?_,?_,?_,?_,?_,?_,?_,?_,?_,?_,?_,?_]) zq ?_;rotate_right
 iterate 9
  refine zV ?_
 refine aw zk rfl rfl ?_ ?_
 ·intro f a g I h;have J:=a.2;go_simp;refine zb (qJ f S) λD j=>?_;exact h.out _ _ zz j
 iterate 13
  refine zV ?_
 refine aw zk rfl rfl ?_ ?_
 ·intro f a g I h;have J:=a.2;go_simp;refine zb (jX 12288 f zo) λD j=>?_;rw[show((sL 12288:Nat):Int)=4096 from rfl];exact h.out _ _ zz j
 iterate 13
  refine zV ?_
 refine zD λc8 a g=>?_
 have K:=zh (ab c7 a.1);have c9:=zh (ab c6 a.1);have U:=zh (aI T a.1 T.size);clear a g c0 q t x y A;have f9:=aa K;obtain⟨c0,q,t,x,y,A⟩:=ue K;obtain⟨g0,V⟩:=zy (aO (qK id tier shard c of n));have d0:=zh (a4.trans V.symm);go_wp2_with fail;refine zJ c8 9 (zL [?_,?_,?_,?_,?_,?_,?_,?_,?_]) zq ?_;rotate_right
 iterate 4
  refine zV ?_
 refine aw zk rfl rfl ?_ ?_
 ·intro f a g I h;have J:=a.2;go_simp;refine zb (sM f S L M N) λD j=>?_;rw[<-V];exact h.out _ _ zz j
 refine zV ?_;refine aw zk rfl rfl ?_ ?_
 ·intro f a g I h;have J:=a.2;go_simp;rw[d0];exact h.out _ _ zz zr
 iterate 2
  refine zV ?_
 refine zD λg1 a g=>?_
 have W:=zh (ab K a.1);have d:=zh (ab c9 a.1);have d1:=zh (aI U a.1 U.size);clear a g c0 q t x y A;obtain⟨c0,q,t,x,y,A⟩:=ue W;obtain⟨d2,d3,d4,d5,d6,d7⟩:=ue d;have g2:=ad (o:=0) d;have g3:=ad (o:=1) d;have g4:=ad (o:=2) d;have g5:=ad (o:=3) d;have g6:=ad (o:=4) d;have g7:=ad (o:=5) d;have g8:=aa d;have g9:=aa W;go_wp2;have hq:=Fp (.int .u64 id) (.int .i64 tier) (.int .i64 shard) (.int .i64 c) (.int .i64 of) (.int .i64 n) d;obtain⟨d8,d9,e0,e1,e2,e3⟩:=ue hq;clear d2 d3 d4 d5 d6 d7;refine NG (v:= .tuple #[.agg #[.int .u64 id,tier,shard,c,of,(n:Int)],()]) (by simp[results,results421,go_sem,d8,d9,e0,e1,e2,e3]) rfl ⟨rfl,?_⟩;exact ao (ao (ao (ao (ao (ao d1 zl) zl) zl) zl) zl) zl
def Mu(w:Qm)(l:List ByteArray)(e:Qq)(w':Qm):Prop:= ∃v,e= .returned (.tuple #[v,()])/\Qs (w'.ownsRow w.heap.size 9 1 v l.length (l.map Value.string))/\Qs (Qr w.heap.size w w')
def vP{v:Qn}{id tier shard:Int}{r:ay}(w:Qm)(u:aB 7 ay.cells w v [r])(h:r.good)(S:fJ id tier shard):
 Qo zP 334 #[.int .u64 id,tier,shard,v] w (Mu w [aO (fs id tier shard 0 1 [r])]):=by
 obtain⟨U,V,W,X,Y⟩:=info_parts nn;have H:=zh S;have Z:=zh u;have k:=zh h;have b3:=zh u;obtain⟨a,c,rfl,y,b4⟩:=u;clear S h;go_enter func334,ntmps334;go_wp2_with fail;refine zb (qJ _ H) λd m=>?_
 have A:=Z.below m;go_wp2_with fail;obtain⟨b,o,rfl,b5,B,C,D,E,F,I,J⟩:=ds (j:=0) A rfl;simp only[Ox,NR] at B C D E F I J;refine NM 2 ?_;rw[NF];go_wp2_with fail;obtain⟨f,i⟩: ∃f,f=d.alloc (.cells #[r.name,(r.start:Int),(r.agg.c:Int),(r.agg.hi:Int),.int .u64 r.agg.lo,(r.agg.mn:Int),(r.agg.mx:Int)] 65):=⟨_,rfl⟩;have n:f.heap[d.heap.size]?=some (.cells #[r.name,(r.start:Int),(r.agg.c:Int),(r.agg.hi:Int),.int .u64 r.agg.lo,(r.agg.mn:Int),(r.agg.mx:Int)] 65):=by rw[i];exact ag rfl
 have p:Qr d.heap.size d f:=by rw[i];exact ak _ _
 rw[<-i];obtain⟨c0,c1,c2,c3,c4,c5,c6⟩:=lP n;have b6:=aa n;have K:=aI m p m.size;have a0:=A.below p;clear i p n B C D E F I J;refine zJ f 17 (zL [?_,?_,?_,?_,?_,?_,?_,?_,?_,?_,?_,?_,?_,?_,?_,?_,?_]) zq ?_;rotate_right;refine zV ?_;refine aw zk rfl rfl ?_ ?_
 ·intro d e q a1 s;have b7:=e.2;go_simp;refine zb (qI r d k) λb8 a2=>?_;exact s.out _ _ zz a2
 iterate 5
  refine zV ?_
 iterate 8
  refine aw zk rfl rfl ?_ ?_
  ·intro d e q a1 s;rw[NB (by simp[Region.wanted,yielded,undef])];exact s.out _ _ (by rfl) zr
  simp only[zS]
 iterate 2
  refine zV ?_
 refine zD λb9 e q=>?_
 have L:=aI K e.1 K.size;have a3:=a0.below e.1;clear e q c0 c1 c2 c3 c4 c5 c6;go_wp2_with fail;rw[NF];go_wp2_with fail;refine zb (jX 1 _ (by omega)) λc7 M=>?_
 have N:=aI L M L.size;have a4:=a3.below M;rw[show((sL 1:Nat):Int)=1 from rfl];go_wp2_with fail;refine NM 2 ?_;rw[NF];have c8:min (3:Int) 1=1:=rfl;have c9:1<=c:=y.1;have d0:c<=9223372036854775807:=y.2.1;go_wp2_with fail;refine zb (Fo (l:= [r]) _ (a4.below ze) (by intro x g;simp at g;subst g;exact k) (by simp) rfl H (by unfold dF;omega) (by unfold dF;omega)) λt a5=>?_
 have O:=aI N (ai ze a5) N.size;have a6:(aO (fs id tier shard 0 1 [r])).size=256:=by rw[cv];exact jY (by intro x g;simp at g;subst g;exact k) (by simp)
 obtain⟨T,P⟩:=zy (aO (fs id tier shard 0 1 [r]));rw[<-P] at a6⊢;have Q:=World.ownsRow_nil t w.heap.size 9 1;have a7:=O.size;go_wp2_with (at_builtin;refine wpList_append_lies _ rfl (.tmp 76) (.tmp 80) 121 rfl w.heap.size 9 U (.string ByteArray.empty) 1 16 underlying121 V W X Y rfl (by decide) _ 0 [] rfl (Q.alloc _) ⟨t.heap.size,0,none⟩ 1 1 [.string T] rfl rfl ?c1 ?c2 (by decide) ?c3 ?c4 ?c5 (t.heap.size+1) ?c6 ?_)
 case c1=>exact iA _ _ _
 case c2=>simp[Value.oneCell']
 case c3=>unfold maxLen;omega
 case c4=>omega
 case c5=>simp;omega
 case c6=>simp
 intro d1 d2 d3 R h a8 a9;have b0:=zh R;have b1:=Below.grown (aL (o:= .cells #[T] 9) O a7) h zu (λj b2=>(Q.lt j b2).1);clear R h a8 a9;go_wp2;rw[NF];go_wp2;go_ret2;exact⟨_,rfl,by rw[<-P];(try unfold Qs);simpa using b0.out,b1⟩
section
variable{P:Program}{ops:Array Oper}{Q:Exit->Act->Qm->Prop}{S:Qm->Prop}{R:Qm->Qm->Prop}{specs:List (br R)}
end
def Fq:(zP.info? 474).map (λi=>(i.zero,i.size,i.bytes))=some (some (.agg #[.int .u64 0,(),(),(),(),()]),6,48):=zk
def Mv(x:Int×Int×Int):List Qn:= [.int .u64 x.1,.int .i64 x.2.1,.int .i64 x.2.2,.int .i64 0,.int .i64 1,.int .i64 1]
def Li(l:List ay):br kM:= .rel (λv w=>aB 7 ay.cells w v l) (λ_ _ _ a c=>a.below c)
def Lj(l:List ay):br kM:= .rel (λv w=> ∃x,v= .tuple #[x,()]/\aB 7 ay.cells w x l) (λ_ _ _ ⟨x,e,a⟩ c=>⟨x,e,a.below c⟩)
def JA{T:ByteArray}{y:ByteArray}(a:T.extract 48 112=y):T.extract 48 (IntKind.i64.wrap (48+IntKind.i64.wrap 64)).toNat=y:=a
def Is{s:ByteArray}(l:List ay)(w:Qm)(a:s=aO (dl l))(c: ∀r∈l,r.good)(d:l.length<=10000):Qo zP 371 #[s] w (Kj w l):=by subst a;exact Fn l w c d
def Fr{v:Qn}{id tier shard:Int}{r:ay}(w:Qm)(P:bq w v [aO (fs id tier shard 0 1 [r])])(b1:Qs r.good)(H:Qs (fJ id tier shard)):
 Qo zP 377 #[.int .u64 id,tier,shard,v] w (Kj w [r]):=by
 obtain⟨b2,b3,b4,b5,b6⟩:=info_parts Fq;obtain⟨b7,b8,b9,c1,c2⟩:=info_parts jW;have t:=zh (show∀x∈ [r],x.good by intro x u;simp at u;subst u;exact b1);obtain⟨T,n⟩:=zy (aO (fs id tier shard 0 1 [r]));rw[<-n] at P;have c3:=zh P;have e6:T.size=256:=by rw[n,cv];exact jY t zm
 have c4:=zh (show T.extract 48 112=aO (dl [r]) by
  refine jg ?_;have e:T.data.toList=qK id tier shard 0 1 ([r]:List ay).length++(dl [r]++List.replicate (208-64*([r]:List ay).length) 0):=by rw[n];simp[aO,fs]
  rw[bK,e];exact AP _ _ _ (mr _ _ _ _ _ _) (by rw[fT t];rfl))
 obtain⟨a,c,rfl,-,-,Q⟩:=P;obtain⟨b,o,rfl,e7,R⟩:=Q zm;have f:=R 0 zm;simp only[NR,PQ] at f;clear R Q;go_enter func377,ntmps377;go_wp2_with fail;refine NM 2 ?_;rw[NF];go_wp2_with fail;rw[n];refine zb (Cu _ t zm zm H zo zo zo) λg p=>?_
 have c5:=c3.below p;have f:=ae f p;have c6:=World.ownsRow_nil g w.heap.size 474 6;have e8:b<g.heap.size:=by have:=p.size;omega
 have e9:=p.size;go_wp2_with (at_builtin;refine ci (enc:=Mv) rfl _ _ 497 rfl w.heap.size 474 b2 _ 48 underlying497 b3 b4 b5 b6 rfl zd _ _ 0 [] [(id,tier,shard)] rfl ((c6.alloc _).alloc _) rfl (bC 6 (c:=1) (l:= [(id,tier,shard)]) (ag zm) rfl ⟨Nt 1,zd⟩) (λ_=>rfl) ?qc1 ?qc2 zd ?qc3 ?_)
 case qc1=>intro x y A;simp only[Mv,NL,NJ,Ou] at A;rcases A with rfl|rfl|rfl|rfl|rfl|rfl<;>rfl
 case qc2=>simp
 case qc3=>simp;omega
 intro v' q m B;have C:Qr g.heap.size g q:=(((ND _ g).alloc zl _).alloc zm _).grown B zu (λk L=>by cases L);have S:=aI p C p.size;have c7:=c5.below C;have f:=ae f C;obtain⟨f0,U,rfl⟩:=az m;have V:=(aB.own (enc:=Mv) (l:= [(id,tier,shard)]) m).1;obtain⟨f1,f2,rfl,f3,y⟩:=V.elem (λ_=>rfl) (j:=0) rfl;have W:=y 0 _ rfl;have X:=y 1 _ rfl;have Y:=y 2 _ rfl;have Z:=y 3 _ rfl;have a0:=y 4 _ rfl;have a1:=y 5 _ rfl;simp only[Ox,NR] at W X Y Z a0 a1;have f4:b<q.heap.size:=by have:=C.size;omega
 clear m B C V y;go_wp2_with fail;rw[NF];go_wp2_with fail;refine NM 2 ?_;rw[NF];go_wp2_with fail;obtain⟨F,I⟩:=zx (q.alloc (.cells #[.int .u64 id,tier,shard,(),(1:Int),(1:Int)] 474));have M:F.heap[q.heap.size]?=some (.cells #[.int .u64 id,tier,shard,(),(1:Int),(1:Int)] 474):=by rw[I];exact ag rfl
 have D:Qr q.heap.size q F:=by rw[I];exact ak _ _
 rw[<-I];obtain⟨c0,c8,U,c9,d0,d1⟩:=ue M;have f5:=aa M;have a2:=aI S D S.size;have d2:=c7.below D;have f:=ae f D;have f6:b<F.heap.size:=by have:=D.size;omega
 clear I D M W X Y Z a0 a1;refine zJ F 15 (zL [?_,?_,?_,?_,?_,?_,?_,?_,?_]++(Lj [r])::(Lj [r])::(Li [r])::zL [?_]++(Li [r])::zL [?_]) zq ?_;rotate_right
 iterate 9
  refine zV ?_
 refine aT zk rfl rfl ?_ λf7=>?_
 ·intro g d h J i;have K:=d.2;go_simp;refine(Is [r] g (JA c4) t zm).mono ?_;rintro e f8 ⟨d3,rfl,d4,d5,d6⟩;exact i.out _ _ _ zg ⟨d3,rfl,d4⟩ d6
 simp only[zS];refine aT zk rfl rfl ?_ λa3=>?_
 ·intro g d h J i;have K:=d.2;go_simp;exact i.out _ _ _ zg (h.out 9 zk) zr
 simp only[zS];refine aT zk rfl rfl ?_ λf9=>?_
 ·intro g d h J i;have K:=d.2;go_simp;obtain⟨x,rfl,a4⟩: ∃x,a3= .tuple #[x,()]/\aB 7 ay.cells g x [r]:=h.out 10 zk;go_simp;exact i.out _ _ _ zg a4 zr
 simp only[zS];refine aw zk rfl rfl ?_ ?_
 ·intro g d h J i;have K:=d.2;go_simp;obtain⟨x,rfl,a4⟩: ∃x,a3= .tuple #[x,()]/\aB 7 ay.cells g x [r]:=h.out 10 zk;go_simp;exact i.out _ _ zz zr
 refine aT zk rfl rfl ?_ λd7=>?_
 ·intro g d h J i;have K:=d.2;go_simp;exact i.out _ _ _ zg (h.out 11 zk) zr
 simp only[zS];refine zV ?_;refine zD λs d h=>?_
 have a5:=zh (show aB 7 ay.cells s d7 [r] from h.out 13);have N:=aI a2 d.1 a2.size;have d8:=d2.below d.1;have f:=ae f d.1;have g0:b<s.heap.size:=by have:=d.1.size;omega
 have d9:=World.ownsRow_nil s w.heap.size 65 7;clear d h c0 c8 U c9 d0 d1;obtain⟨g1,g2,rfl,-,-⟩:=a5.out;have d5:=N.size;go_wp2_with (at_builtin;refine ci (enc:=ay.cells) rfl _ _ 59 rfl w.heap.size 65 b7 _ 64 underlying59 b8 b9 c1 c2 rfl zd _ _ 0 [] [r] rfl d9 rfl a5 (λ_=>rfl) ?qc1 ?qc2 zd ?qc3 ?_)
 case qc1=>intro x y A;simp only[ay.cells,NL,NJ,Ou] at A;rcases A with rfl|rfl|rfl|rfl|rfl|rfl|rfl<;>rfl
 case qc2=>simp
 case qc3=>omega
 intro e0 w7 m B;have E:Qr s.heap.size s w7:=(ND _ s).grown B zl (λk L=>by cases L);have a6:=aI N E N.size;have g3:=d8.below E;have f:=ae f E;have g4:b<w7.heap.size:=by have:=E.size;omega
 have a7:=(aB.own (enc:=ay.cells) (l:= [r]) (by simpa using m)).1;have e1:=zh (cP (by simpa using m:w7.ownsRow w.heap.size 65 7 e0 1 ([r].flatMap ay.cells)));obtain⟨g5,g6,rfl⟩:=az m;clear m B E;go_wp2_with fail;rw[NF];go_wp2_with fail;refine(vP (r:=r) w7 a7 b1 H).mono ?_;rintro e g7 ⟨g8,rfl,a8,O⟩;rw[<-n] at a8;have e2:=gC a8 (by intro x u;simp at u;subst u;rw[n,cv,jY t zm];decide);obtain⟨g9,h0,rfl,-,-,a9⟩:=e2;obtain⟨h1,h2,rfl,h3,b0⟩:=a9 zm;have e3:=b0 0 zm;simp only[NR,PQ] at e3;have h4:=ae f O;have e4:=aI a6 O a6.size;have e5:=a7.below O;clear a9 b0 f;go_wp2_with fail;refine NM 2 ?_;rw[NF];go_wp2_with fail;rw[NF];go_wp2;go_ret2;exact⟨_,rfl,e5,e1,e4⟩
def Ll(l:List aF):br kM:= .rel (λv w=>lk w v l) (λ_ _ _ a c=>a.below c)
def Fs{v:Qn}{w:Qm}{p b:Nat}{e:Int}{r:ay}(a0:Qs (bN w p e b []))(b7:Qs (aQ e))(a1:aB 7 ay.cells w v [r])(s:Qs r.ok)(b8:Qs (cI e r=true)):
 Qo zP 202 #[p,v] w (λx w'=>x= .returned (.int .i64 1)/\bN w' p e b [(r.key,ey [aF.zero,r.agg])]/\Ch (·=b) w w'):=by
 have a2:=zh a1;obtain⟨a,c,rfl,-,-⟩:=a1;go_enter func202,ntmps202;go_wp2_with fail;refine zb (jQ a0.blk) λd l=>?_
 have I:=a0.below l;have a3:=a2.below l;obtain⟨b9,c1,rfl,c2,J,K,L,M,N,O,P⟩:=ds (j:=0) a3 rfl;simp only[Ox,NR] at J K L M N O P;go_wp2_with fail;refine NM 2 ?_;rw[NF];go_wp2_with fail;refine zb (xZ (ab I.blk ze) b7 r s) λg t=>?_
 rw[b8];have u:=zh (show g.heap[d.heap.size]?=some (.cells #[r.name,(r.start:Int),(r.agg.c:Int),(r.agg.hi:Int),.int .u64 r.agg.lo,(r.agg.mn:Int),(r.agg.mx:Int)] 65) from ab (ag rfl) t);have B2:=aI l (ai ze t) l.size;have a4:=I.below (ai ze t);obtain⟨c0,y,A,B,C,D,E⟩:=lP u;have c3:=aa u;clear J K L M N O P;go_wp2_with fail;obtain⟨h,m⟩:=zx (g.alloc (.cells #[r.name,(r.start:Int)] 183));have Q:h.heap[g.heap.size]?=some (.cells #[r.name,(r.start:Int)] 183):=by rw[m];exact ag rfl
 have n:Qr g.heap.size g h:=by rw[m];exact ak _ _
 rw[<-m];have R:=zh (ab u n);have TW:=a4.below n;have S:=aI B2 n B2.size;obtain⟨a5,a6⟩:=bE Q;have c4:=aa Q;clear c0 y A B C D E m n;obtain⟨c0,y,A,B,C,D,E⟩:=lP R;obtain⟨a7,a8⟩:=bE TW.blk;have c5:=aa TW.blk;have c6:=aa R;obtain⟨q,hq⟩:=EP (p:=r.key) s.1 s.2.1;have T:=zh hq;have a9:=zh (show∀d,Qr h.heap.size h d->(Instr.lookup 179 (.map (some b)) (.agg #[r.name,(r.start:Int)]) false).run zP d= .ok aF.zero.val d from λd F=>(TW.map.below F).look sp qp underlying179 (z:=aF.zero.val) rfl false T);have b0:=zh (show∀x∈ [aF.zero,r.agg],x.ok by intro x U;simp at U;rcases U with rfl|rfl;exact tW;exact s.2.2);clear hq;refine zJ h 15 (zL [?_,?_,?_,?_,?_,?_,?_,?_,?_,?_,?_,?_,?_]++(Ll [aF.zero,r.agg])::zL [?_]) zq ?_;rotate_right
 iterate 10
  refine zV ?_
 refine aw zk rfl rfl ?_ ?_
 ·intro d f i V k;have W:=f.2;go_simp;rw[a9 d f.1];simp only[Result.andThen];rw[OZ];exact k.out _ _ zz zr
 iterate 2
  refine zV ?_
 refine aT zk rfl rfl ?_ λc7=>?_
 ·intro d f i V k;have W:=f.2;go_simp;exact k.out _ _ _ zg (EN rfl rfl b0 zm) ze
 simp only[zS];refine aw zk rfl rfl ?_ ?_
 ·intro d f i V k;have W:=f.2;go_simp;refine zb (BW _ [aF.zero,r.agg] _ (i.out 13 zk)) λg b1=>?_;exact k.out _ _ zz b1
 simp only[zS];refine zA λc8 f i=>?_
 have o:=TW.below f.1;have b2:=aI S f.1 S.size;clear f i a5 a6 c0 y A B C D E a7 a8;refine dt rfl _ _ _ rfl o.map sp qp underlying179 T (ey [aF.zero,r.agg]) rfl rfl rfl (λX Y H=>?_)
 have b3:p≠b:=λF=>by
  obtain⟨es,c9,b4,_⟩:=o.map;have Z:=o.blk;rw[F,b4] at Z;cases Z
 have b5:=zh (show bN X p e b [(r.key,ey [aF.zero,r.agg])] from⟨H.out.keep o.blk b3,Y.out⟩);have b6:=zh (show Ch (·=b) w X from(Ch.fresh b2).trans H.out);clear Y H;go_wp2;rw[NF];go_wp2;go_ret;exact⟨rfl,b5,b6⟩
def fH(o:Option ay):List ((ByteArray×Int)×aF):=o.toList.map λr=>(r.key,r.agg)
def AQ(w:Qm)(l:List ay)(e:Qq)(w':Qm):Prop:= ∃v,e= .returned v/\Qs (w'.ownsRow w.heap.size 65 7 v l.length (l.flatMap ay.cells))/\Qs (Qr w.heap.size w w')
def ft{w:Qm}{p b:Nat}{e:Int}{o:Option ay}(R:Qs (bN w p e b (fH o))):
 Qo zP 47 #[p] w (AQ w o.toList):=by
 go_enter func47,ntmps47;go_wp2_with fail;refine zb (jQ R.blk) λt h=>?_
 have u:=R.below h;obtain⟨S,T⟩:=bE u.blk;go_wp2_with (refine eF rfl (.tmp 11) rfl u.map underlying179 rfl ?_);intro U V m;have B2:=aI h m h.size;have b3:=m.size;have v:=zh V.out;clear m S T;cases o with
 |none=>
  go_wp2_with fail;refine NM 2 ?_;rw[NF];go_wp2_with (refine du rfl (.tmp 12) rfl v.out rfl (λ_=>?_) (λi p w' d _ _=>by cases d));go_wp2_with fail;refine zb (vE none 0 0 _ _ (by omega)) λa W=>?_
  have f:=aI B2 W B2.size;go_wp2;go_ret;exact⟨_,rfl,World.ownsRow_nil _ _ _ _,f⟩
 |some r=>
  obtain⟨X,Y,Z,a0,a1⟩:=info_parts jW;have b4:=h.size;have b5:=World.ownsRow_nil U w.heap.size 65 7;go_wp2_with fail;refine NM 3 ?_;rw[NF];go_wp2_with (refine du rfl (.tmp 12) rfl v.out rfl (λd=>by cases d) (λi q a hq A n=>?_))
  obtain⟨rfl,rfl⟩:i=0/\q=(r.key,r.agg):=by
   cases i with
   |zero=>simp[fH] at hq;exact⟨rfl,hq.symm⟩
   |succ i=>simp[fH] at hq
  have C:=zh (show EO zP 183 ez aF.val a t.heap.size b (fH (some r)) [] (r.key,r.agg) from A.out);have f:=B2.trans (n.out.below (B:=w.heap.size) (by intro k g;omega) (by omega));have b6:=n.out.size;clear A n hq;go_wp2_with fail;obtain⟨_,es,a2,a3,a4,a5,D,E,F,H,g,I⟩:=C.out;have s:=run_entry_at (P:=zP) a t.heap.size b a3 a4 es a2 a5 D E F H;rw[g,I] at s;rw[s];clear s g I H F D E;simp only[Result.andThen];rw[OZ];dsimp only[ez,ay.key,aF.val];have b7:w.heap.size<=a.heap.size:=f.size;have a6:=World.ownsRow_nil a w.heap.size 65 7;go_wp2_with (at_builtin;refine ci (enc:=ay.cells) rfl _ _ 59 rfl w.heap.size 65 X _ 64 underlying59 Y Z a0 a1 rfl (by decide) _ _ 0 [] [r] rfl (((a6.alloc _).alloc _).alloc _) rfl (bC 7 (c:=1) (l:= [r]) (ag (by simp)) rfl ⟨Nt 1,by decide⟩) (λ_=>rfl) ?qc1 ?qc2 (by decide) ?qc3 ?_)
  case qc1=>intro x y J;simp only[ay.cells,NL,NJ,Ou] at J;rcases J with rfl|rfl|rfl|rfl|rfl|rfl|rfl<;>rfl
  case qc2=>simp
  case qc3=>simp;omega
  intro a7 K L M;have j:Qr a.heap.size a K:=((((ND _ a).alloc zl _).alloc (by simp) _).alloc zu _).grown M zu (λk g=>by cases g);have N:=aI f j f.size;have a8:=C.1.below j;have b8:=j.size;have O:=zh (show K.ownsRow w.heap.size 65 7 a7 1 (ay.cells r) by simpa using L);obtain⟨a9,b0,rfl⟩:=az O;clear L M j;go_wp2_with fail;rw[NF];go_wp2_with (refine du rfl (.tmp 12) rfl a8 rfl (λ_=>?_) (λi p w' d _ _=>by cases d));go_wp2_with fail;refine zb (vE a9 1 b0 _ _ (by omega)) λb9 Q=>?_
  have b1:=aI N Q N.size;have b2:=aS O Q;go_wp2;go_ret;exact⟨_,rfl,by(try unfold Qs);simpa using b2,b1⟩
section
variable{R:Qm->Qm->Prop}{P:Program}{ops:Array Oper}{Q:Exit->Act->Qm->Prop}{S:Qm->Prop}{specs:List (br R)}
def nD{n:Nat}{d e f:Oper}{c:List Qn}{a:Act}(l:decide (ops.size=n+1+1+1)=true)(m:cM ops.toList n=some d)(o:cM ops.toList (n+1)=some e)(p:cM ops.toList (n+1+1)=some f)(q: ∀w,S w->Shut (∀j,gf specs c w j)->Shut (∀i j,i≠j->km specs c i j)->wpList P ops Q [d,e,f] a w):dc P ops Q S specs n n c a:=by
 refine pQ λw g h k=>?_
 rw[em m,em o,em p,lR (Ns l)];exact q w g h k
end
def cj{w:Qm}{B c k n:Nat}{e:Qp}{v:Qn}{d:List Qn}(f:w.ownsRow B e k v n d)(l:c<=B):w.ownsRow c e k v n d:=by
 refine⟨f.1,?_⟩;rcases f.2 with a|⟨g,cap,h,a,j,i⟩
 ·exact .inl a
 ·exact .inr ⟨g,cap,h,a,zo,i⟩
def uf(o:Option ay)(q:Bool):Int:=if o.isSome&&q then 0 else-1
def ug(F:Nat):Prop:= ∀(args:Array Qn) (w:Qm),(callFunc F args).run zP w= .ok (.enter F args) w
def hE{F:Nat}{a:Func}(g:zP.funcs[F]?=some a)(i:(a.name== "runtime.NumGoroutine")=false)(d:a.body.isNone=false):ug F:=λargs w=>by
 have e:a.name≠ "runtime.NumGoroutine" :=by simpa using i
 obtain⟨c,f⟩: ∃c,a.body=some c:=by
  cases h:a.body with
  |none=>rw[h] at d;cases d
  |some c=>exact⟨c,rfl⟩
 simp[callFunc,g,e,f]
def Ft(F:Nat)(bs:Array Qn)(w:Qm)(o:Option ay)(q:Bool):Prop:=ug F/\ ∀r∈o,∀w',Qr w.heap.size w w'->Qo zP F (#[r.val]++bs) w' (aK w' (.bool q))
def Fu{v:Qn}{o:Option ay}{F:Nat}{bs:Array Qn}{q:Bool}{w:Qm}(g:aB 7 ay.cells w v o.toList)(h:Qs (Ft F bs w o q)):
 Qo zP 346 #[v,.func (.func F) #[] bs] w (aK w (.int .i64 (uf o q))):=by
 have i:=zh g;obtain⟨a,c,rfl,-,-⟩:=g;cases o with
 |none=>
  go_enter func346,ntmps346;go_wp2_with fail;refine NM 1 ?_;rw[NF];go_wp2;go_ret;exact⟨rfl,ND _ _⟩
 |some r=>
  obtain⟨u,x,rfl,y,k,l,m,n,p,s,t⟩:=ds (j:=0) i rfl;simp only[Ox,NR] at k l m n p s t;go_enter func346,ntmps346;go_wp2_with fail;refine NM 2 ?_;rw[NF];go_wp2_with fail;rw[h.1];refine(h.2 r rfl _ zr).mono ?_;rintro e A ⟨rfl,d⟩;have f:=zh d;clear d;cases q
  ·go_wp2_with fail
   rw[NF];go_wp2;go_ret;exact⟨rfl,f⟩
  ·go_wp2
   go_ret;exact⟨rfl,f⟩
def jZ{B b:Nat}{a:Qm}(e:B<=b): ∀(c:List Qn) (o:Nat) (w:Qm),Qr B a w->Qr B a (w.setCells b o c)
 | [],_,_,d=>d
 |v::c,o,w,d=>jZ e c (o+1) (w.setCell ⟨b,o,none⟩ v) (ao d e)
def rV{P:Program}{w:Qm}{t e h:Qp}{z:Qn}{zs:List Qn}{b o c:Nat}(k:P.underlying t=some (.slice e))(l: ∀w,(zeroValue e).run P w= .ok z w)(m:z.cells.toList=zs)(d: ∀v∈zs,v.oneCell'=true)
 (n: ∀j,j<zs.length->(w.cell? ⟨b,o+j,none⟩).isSome=true) (p: ∀j,j<zs.length->w.frozen? ⟨b,o+j,none⟩=false):
 (Builtin.clear_ #[t] h #[.slice (some ⟨b,o,none⟩) 1 c]).run P w= .ok (.tuple #[]) (w.setCells b o zs):=by
 have a:=run_storeCells_cells (P:=P) b o zs 0 w (by simpa using n) (by simpa using p) d;simp only[NR] at a
 have f:(Builtin.zeroCells z.cells 1).toList=zs:=by
  subst m;apply Pa
  ·simp[Builtin.zeroCells]
  ·intro i d g
   have:i<z.cells.size:=by simpa using g
   simp[Builtin.zeroCells,Nat.mod_eq_of_lt this];rw[getElem!_pos z.cells i this]
 simp[Builtin.clear_,run_underlying k,l,f,a]
def AR:List Qn:= [.string ByteArray.empty,.int .i64 0,.int .i64 0,.int .i64 0,.int .u64 0,.int .i64 0,.int .i64 0]
def rW{w:Qm}{b o c:Nat}(d:Qp)(e: ∀j,j<7->(w.cell? ⟨b,o+j,none⟩).isSome=true)(f: ∀j,j<7->w.frozen? ⟨b,o+j,none⟩=false):
 (Builtin.clear_ #[59] d #[.slice (some ⟨b,o,none⟩) 1 c]).run zP w= .ok (.tuple #[]) (w.setCells b o AR):=
 rV (z:= .agg AR.toArray) underlying59 (λw=>rfl) rfl (by intro v a;simp only[AR,NL,NJ,Ou] at a;rcases a with rfl|rfl|rfl|rfl|rfl|rfl|rfl<;>rfl) e f
def fK(o:Option ay)(q:Bool):List ay:=if q then [] else o.toList
def It(w:Qm)(B:Nat)(l:List ay)(e:Qq)(w':Qm):Prop:= ∃u,e= .returned u/\Qs (aB 7 ay.cells w' u l)/\Qs (iX B u)/\Qs (Qr B w w')
def uh{v:Qn}{o:Option ay}{F B:Nat}{bs:Array Qn}{q:Bool}{w:Qm}(y:Qs (w.ownsRow B 65 7 v o.toList.length (o.toList.flatMap ay.cells)))(O:B<=w.heap.size)(P:Qs (Ft F bs w o q)):
 Qo zP 277 #[v,.func (.func F) #[] bs] w (It w B (fK o q)):=by
 obtain⟨i,k⟩:=aB.own y;have l:=zh i;have A:=zh k;obtain⟨a,c,rfl,Q,-⟩:=i;clear k;go_enter func277,ntmps277;go_wp2_with fail;refine zb (Fu l P) λm f=>?_
 have p:=f.mono O;have C:=l.below f;have D:=aS y f
 have E:(uf o q= -1/\fK o q=o.toList)\/(uf o q=0/\fK o q= []/\ ∃r,o=some r):=by
  cases o<;>cases q<;>simp[uf,fK]
 rcases E with⟨h,d⟩|⟨h,d,r,rfl⟩
 ·rw[h,d]
  go_wp2;go_ret;exact⟨_,rfl,by rw[d];exact C,A,p⟩
 ·rw[h,d]
  obtain⟨g,cap,e,H,R,S,I,t,u⟩:=dr D zm;injection e with J T K;subst J K
  have x: ∀j,j<7->(m.cell? ⟨g,0+j,none⟩).isSome=true:=λj L=>by
   have M:j<(ay.cells r++ []).length:=by simpa[ay.cells] using L
   rw[Ok,u j _ (Np M)];rfl
  have U:=λN=>rW (c:=c) N x (λj _=>t (0+j))
  have B2:=jZ H AR 0 m p;clear x t u;go_wp2_with fail;refine NM 1 ?_;rw[NF];go_wp2;go_ret;exact⟨_,rfl,by rw[d];exact⟨_,_,rfl,⟨Nx _,I,λe=>nomatch e⟩,λe=>absurd rfl e⟩,λb o s n c e=>by injection e with e;injection e with e;injection e with e;omega,B2⟩
def Fv{w:Qm}{b:Nat}(f:Qn)(H:Qs (bL zP 183 ez aF.val w b [])):Qo zP 263 #[.map (some b),f] w (aK w (.tuple #[])):=by
 go_enter func263,ntmps263;go_wp2_with (refine eF rfl (.tmp 6) rfl H underlying179 rfl ?_);intro g a c;have B2:=zh c;have d:=zh a.out;clear a c;go_wp2_with fail;refine NM 1 ?_;rw[NF];go_wp2_with (refine du rfl (.tmp 7) rfl d.out rfl (λ_=>?_) (λi p w' e _ _=>by cases e));go_wp2
 go_end0
 exact⟨rfl,B2⟩
def Mw(l:List ((ByteArray×Int)×aF))(B:Nat):br kM:= .rel (λv w=> ∃c,v= .map (some c)/\B<=c/\bL zP 183 ez aF.val w c l) (λ_ _ _ h hb=>by obtain⟨c,h1,h2,h3⟩:=h;exact⟨c,h1,h2,h3.below hb⟩)
def nE{w:Qm}{p b:Nat}{e:Int}{l:List ((ByteArray×Int)×aF)}(H:Qs (bN w p e b l)):Qo zP 79 #[.pointer (some ⟨p,0,none⟩)] w (λx w'=> ∃q d,x= .returned (.pointer (some ⟨q,0,none⟩))/\Qs (bN w' q e d l)/\w.heap.size<=q/\w.heap.size<=d/\Qs (Qr w.heap.size w w')):=by
 obtain⟨c0,j⟩:=bE H.blk;have t:=aa H.blk;go_enter func79,ntmps79;go_wp2_with fail;refine zJ w 9 (zL [?_,?_,?_,?_,?_,?_,?_,?_]++(Mw l w.heap.size):: []) (ax _) ?_;rotate_right
 iterate 8
  refine zV ?_
 refine aT zk rfl rfl ?_ λk=>?_
 ·intro u a g v m;have y:=a.2;go_simp;refine(yb b l _ (H.map.below a.1)).mono ?_;rintro e A ⟨c,rfl,h,f,n⟩;exact m.out _ _ _ (by simp only[zS]<;>rfl) ⟨c,rfl,Nq a.1.size h,f⟩ n
 simp only[zS];refine nD zk rfl rfl rfl (λo a g _=>?_);obtain⟨c,r,h,f⟩: ∃c,k= .map (some c)/\w.heap.size<=c/\bL zP 183 ez aF.val o c l:=g.out 8;subst r;have i:=zh a.1;have s:=zh f;clear g a f c0 j;go_wp2;go_ret;exact⟨_,c,rfl,⟨ag rfl,s.below (ak _ _)⟩,i.size,h,ai i (ak _ _)⟩
def sN{w:Qm}{p b:Nat}{e:Int}(H:Qs (bN w p e b []))(F:Nat)(bs:Array Qn):Qo zP 183 #[.pointer (some ⟨p,0,none⟩),.func (.func F) #[] bs] w (aK w (.int .i64 0)):=by
 go_enter func183,ntmps183;go_wp2_with fail;refine zb (jQ (ab H.blk ze)) λk j=>?_
 have d:=zh (ai ze j);have a:=zh (H.below d);obtain⟨c0,f⟩:=bE a.blk;have g:=λc=>AI c a
 go_wp2_with fail;refine zb (Fv _ a.map) λl h=>?_
 have B2:=zh (ai d h);have i:=zh (a.below h);clear g c0 f;obtain⟨c0,f⟩:=bE i.blk;have g:=λc=>AI c i
 go_wp2;go_ret;exact⟨rfl,B2⟩
def yp{w:Qm}{p b:Nat}{e:Int}(H:Qs (bN w p e b []))(n:Int):Qo zP 120 #[p,n] w (aK w (.int .i64 0)):=by
 go_enter func120,ntmps120;go_wp2_with fail;refine zb (sN (H.below ze) _ _) λd a=>?_
 have c:=zh (ai ze a);go_wp2;go_ret;exact⟨rfl,c⟩
def yq{w:Qm}{p b:Nat}{e:Int}(H:Qs (bN w p e b []))(k n:Int):Qo zP 201 #[p,k,n] w (aK w (.int .i64 0)):=by
 go_enter func201,ntmps201;go_wp2_with fail;refine zb (sN (H.below (ai ze ze)) _ _) λd a=>?_
 have c:=zh (ai (ai ze ze) a);go_wp2;go_ret;exact⟨rfl,c⟩
def kV(o:Option ay)(n k:Int):Bool:=o.any λr=>cV r.name n !=k
def yr{w:Qm}{r:ay}{n k:Int}{g h:Nat}(E:Qs (r.name.size<=1000000))(F:Qs (aQ n))(i:w.cell? ⟨g,0,none⟩=some (.int .i64 n))(j:w.cell? ⟨h,0,none⟩=some (.int .i64 k)):
 Qo zP 278 (#[r.val]++#[.pointer (some ⟨g,0,none⟩),.pointer (some ⟨h,0,none⟩)]) w (aK w (.bool (cV r.name n !=k))):=by
 have p:=Nv w _ i;have l2:=Nv w _ j;dsimp only at p l2;show Qo zP 278 #[r.val,.pointer (some ⟨g,0,none⟩),.pointer (some ⟨h,0,none⟩)] w _;unfold ay.val;go_enter func278,ntmps278;go_wp2_with fail;obtain⟨a,c⟩:=zx (w.alloc (.cells #[.string r.name,.int .i64 r.start,.int .i64 r.agg.c,.int .i64 r.agg.hi,.int .u64 r.agg.lo,.int .i64 r.agg.mn,.int .i64 r.agg.mx] 65));have e:a.heap[w.heap.size]?=some (.cells #[.string r.name,.int .i64 r.start,.int .i64 r.agg.c,.int .i64 r.agg.hi,.int .u64 r.agg.lo,.int .i64 r.agg.mn,.int .i64 r.agg.mx] 65):=by rw[c];exact ag rfl
 have f:=zh (show Qr w.heap.size w a by rw[c];exact ak _ _);rw[<-c];obtain⟨c0,q,s,t,u,v,x⟩:=lP e;have l:=ae i f;have m:=ae j f;have y:=Nv a _ l;have A:=Nv a _ m;have H:=aa e;dsimp only at y A;clear c i j e;refine zJ a 7 (zL [?_,?_,?_,?_,?_,?_,?_]) zq ?_;rotate_right
 iterate 3
  refine zV ?_
 refine aw zk rfl rfl ?_ ?_
 ·intro I d o J B;have K:=d.2;go_simp;refine zb (nj r.name n _ E F) λL C=>?_;exact B.out _ _ zz C
 iterate 3
  refine zV ?_
 refine zD λM d o=>?_
 have D:=zh (ai f d.1);clear o d c0 q s t u v x l m;go_wp2;go_ret;exact⟨rfl,D⟩
def yt{w:Qm}{p b:Nat}{e:Int}{o:Option ay}(H:Qs (bN w p e b (fH o)))(C:Qs (∀r∈o,r.ok))(k n:Int)(D:Qs (aQ n)):Qo zP 203 #[p,k,n] w (It w w.heap.size (fK o (kV o n k))):=by
 go_enter func203,ntmps203;go_wp2_with fail;refine(ft (H.below (ai ze ze))).mono ?_;rintro x l ⟨v,rfl,m,c⟩;obtain⟨d,f,g⟩:=gE c;have E:=c.size;have q:=zh (cj m (show w.heap.size<=((w.alloc (.cells #[k] 3)).alloc (.cells #[n] 3)).heap.size by simp;omega));have h:=zh g;have s:=zh d;have t:=zh f;clear d f g;go_wp2_with fail
 have i:Ft 278 #[(w.heap.size+1:Nat),w.heap.size] l o (kV o n k):=⟨hE func278 zk zk,λr a w' j=>by
  cases o with
  |none=>cases a
  |some F=>
   injection a with a;subst a
   exact yr (C _ rfl).1 D (ae (by rw[NA _ _ _ _ _ _ t];rfl) j) (ae (by rw[NA _ _ _ _ _ _ s];rfl) j)⟩
 refine(uh q h.size i).mono ?_;rintro x I ⟨u,rfl,y,A,B⟩;have B2:=zh (h.trans B);clear i;go_wp2;go_ret;exact⟨u,rfl,y,A,B2⟩
def yu{w:Qm}{r:ay}{n:ByteArray}{f t:Int}{a c d:Nat}(h:w.cell? ⟨a,0,none⟩=some (.string n))(i:w.cell? ⟨c,0,none⟩=some (.int .i64 f))(j:w.cell? ⟨d,0,none⟩=some (.int .i64 t))(k:r.name=n/\f<=r.start/\r.start<t):
 Qo zP 411 (#[r.val]++#[.pointer (some ⟨a,0,none⟩),.pointer (some ⟨c,0,none⟩),.pointer (some ⟨d,0,none⟩)]) w (aK w (.bool false)):=by
 have e:=Nv w _ h;have l2:=Nv w _ i;have g:=Nv w _ j;dsimp only at e l2 g;obtain⟨rfl,l,m⟩:=k;show Qo zP 411 #[r.val,.pointer (some ⟨a,0,none⟩),.pointer (some ⟨c,0,none⟩),.pointer (some ⟨d,0,none⟩)] w _;unfold ay.val;go_enter func411,ntmps411;go_wp2;go_ret;exact⟨bu (by simp;omega),ak _ _⟩
def yv{w:Qm}{p b:Nat}{e:Int}{o:Option ay}(H:Qs (bN w p e b (fH o)))(n:ByteArray)(f t:Int)(E:Qs (∀r∈o,r.name=n/\f<=r.start/\r.start<t)):Qo zP 360 #[p,n,f,t] w (It w w.heap.size o.toList):=by
 go_enter func360,ntmps360;go_wp2_with fail;refine(ft (H.below (ai (ai ze ze) ze))).mono ?_;rintro x k ⟨v,rfl,l,a⟩;have F:=a.size;have d:=ab (ab (ab (ag (w:=w) (o:= .cells #[n] 9) rfl) (ak _ (.cells #[f] 3))) (ak _ (.cells #[t] 3))) a;have g:=ab (ab (ag (w:=w.alloc (.cells #[n] 9)) (o:= .cells #[f] 3) (b:=w.heap.size+1) zm) (ak _ (.cells #[t] 3))) a;have h:=ab (ag (w:=(w.alloc (.cells #[n] 9)).alloc (.cells #[f] 3)) (o:= .cells #[t] 3) (b:=w.heap.size+2) zm) a;have m:=zh (cj l (show w.heap.size<=_ by simp;omega));have i:=zh (ai (ai (ai (ak w _) ze) ze) a);have q:=zh d;have s:=zh g;have y:=zh h;clear d g h;go_wp2_with fail
 have j:Ft 411 #[w.heap.size,(w.heap.size+1:Nat),(w.heap.size+2:Nat)] k o false:=⟨hE func411 zk zk,λr A w' c=>by
  exact yu (ae (by rw[NA _ _ _ _ _ _ q];rfl) c) (ae (by rw[NA _ _ _ _ _ _ s];rfl) c) (ae (by rw[NA _ _ _ _ _ _ y];rfl) c) (E r A)⟩
 refine(uh m i.size j).mono ?_;rintro x I ⟨u,rfl,B,C,D⟩;have B2:=zh (i.trans D);clear j;go_wp2;go_ret;exact⟨u,rfl,B,C,B2⟩
def EO.run{P:Program}{K:Qp}{κ α:Type}{ek:κ->Qn}{ev:α->Qn}{w:Qm}{r b:Nat}{l left:List (κ×α)}{p:κ×α}(h:EO P K ek ev w r b l left p):(Instr.entry (.pointer (some ⟨r,0,none⟩))).run P w= .ok (.tuple #[ek p.1,ev p.2]) w:=by
 obtain⟨_,es,clock,since,seen,e,hr,hb,he,hn,hk,hv⟩:=h;have hrun:=run_entry_at (P:=P) w r b since seen es clock e hr hb he hn;rw[hk,hv] at hrun;exact hrun
def gr(n:Int):Qn:= .int .i64 n
def eH(x y:Int)(h:gr x=gr y):x=y:=by injection h
def gd(o:Option ay):Int:=if o.isSome then 1 else 0
def yw(s:ByteArray)(n:Int)(hn:aQ n):HD (cV s n):=by
 refine gn ?_;unfold cV;unfold aQ at hn;split
 ·omega
 ·have:=PZ (gj s.data.toList:Int) (zo:0<n)
  have:=Qh (gj s.data.toList:Int) (zo:n≠0);omega
def Cv{w:Qm}{p b:Nat}{e:Int}{o:Option ay}(H:Qs (bN w p e b (fH o)))(a7:Qs (∀r∈o,r.ok))(n:Int)(U:Qs (aQ n)):Qo zP 139 #[p,n] w (aK w (.int .i64 (gd o))):=by
 have V:= @run_makeMap zP;go_enter func139,ntmps139;go_wp2_with fail;refine(ft (H.below ze)).mono ?_;rintro x W ⟨v,rfl,X,m⟩;obtain⟨u,Y⟩:=aB.own X;have Z:=zh u;have y:=zh (ai ze m);have A:=zh ((bL.new zP 3 gr gr w).below m);have a8:w.heap.size+1<=W.heap.size:=by have:=m.size;simpa using this
 obtain⟨a,c,rfl,-,-⟩:=u;clear Y V;cases o with
 |none=>
  go_wp2_with fail;refine NM 1 ?_;rw[NF];go_wp2_with (refine eF rfl (.tmp 28) rfl A underlying286 rfl ?_);intro a0 f g;have B2:=zh (ai y g);have s:=zh f.out;clear f g;go_wp2_with fail;refine NM 1 ?_;rw[NF];go_wp2_with (refine du rfl (.tmp 29) rfl s.out rfl (λ_=>?_) (λi p w' h _ _=>by cases h));go_wp2;go_ret;exact⟨rfl,B2⟩
 |some r=>
  obtain⟨a9,b0,rfl,b1,C,D,E,F,I,J,K⟩:=ds (j:=0) Z rfl;simp only[Ox,NR] at C D E F I J K;have a1:=(a7 r rfl).1;go_wp2_with fail;refine NM 2 ?_;rw[NF];go_wp2_with fail;refine zb (nj r.name (max n 1) _ a1 (by have:=U.out;unfold aQ at this⊢;omega)) λa0 g=>?_
  obtain⟨d,t⟩:=zx (cV r.name (max n 1));have a2:HD d:=by rw[t];exact yw _ _ (by have:=U.out;unfold aQ at this⊢;omega)
  rw[<-t];have L:=zh (gX a2);have B2:=zh (ai y (ai ze g));have M:=zh (A.below (ai ze g));clear t C D E F I J K;go_wp2_with (refine lZ rfl (.tmp 19) (.tmp 24) false rfl M eM eH underlying286 (z:= .int .i64 0) rfl L rfl rfl ?_);rw[show hC (Value.int .i64 0) gr false (bf ([]:List (Int×Int)) d)= .int .i64 0 from rfl];go_simp;go_wp2_with (refine dt rfl (.tmp 19) (.tmp 24) (.tmp 26) rfl M eM eH underlying286 L 1 rfl rfl rfl ?_);intro N O l;have a3:=zh (show bL zP 3 gr gr N w.heap.size [(d,1)] from O.out);have P:=zh (B2.trans (l.out.below (B:=w.heap.size) (by intro k a4;omega) B2.size));clear O l;go_wp2_with fail;rw[NF];go_wp2_with (refine eF rfl (.tmp 28) rfl a3 underlying286 rfl ?_);intro b2 f Q;have R:=zh (ai P Q);have s:=zh f.out;clear f Q;go_wp2_with fail;refine NM 2 ?_;rw[NF];have b3:=P.size;go_wp2_with (refine du rfl (.tmp 29) rfl s.out rfl (λh=>by cases h) (λi q a5 hq l S=>?_))
  obtain⟨rfl,rfl⟩:i=0/\q=(d,1):=by
   cases i with
   |zero=>simp at hq;exact⟨rfl,hq.symm⟩
   |succ i=>simp at hq
  have T:=zh (show EO zP 3 gr gr a5 N.heap.size w.heap.size [(d,1)] [] (d,1) from l.out);have a6:=zh (R.trans (S.out.below (B:=w.heap.size) (by intro k a4;omega) R.size));clear l S hq;go_wp2_with fail;rw[T.run];simp only[Result.andThen];rw[OZ];dsimp only[gr];go_wp2_with fail;rw[NF];go_wp2_with (refine du rfl (.tmp 29) rfl T.1 rfl (λ_=>?_) (λi p w' h _ _=>by cases h));go_wp2;go_ret;exact⟨rfl,a6⟩
def Sl(B E:Nat)(v:Qn)(n:Nat):Prop:=n≠0-> ∀b o s m c,v= .slice (some ⟨b,o,s⟩) m c->B<=b/\b<E
def co{w w':Qm}{v:Qn}{l:List ah}{B E:Nat}(d:aH w v l)(q:Sl B E v l.length)(t:w.heap.size<=w'.heap.size)(r: ∀k,B<=k->k<E->w'.heap[k]?=w.heap[k]?):aH w' v l:=by
 obtain⟨a,c,rfl,g,h,i⟩:=d;refine⟨a,c,rfl,g,h,λe=>?_⟩;obtain⟨b,o,rfl,s,m⟩:=i e;have f:=q (λd=>e (NI d)) b o none _ _ rfl;have n: ∀o',w'.cell? ⟨b,o',none⟩=w.cell? ⟨b,o',none⟩:=λo'=>by unfold World.cell?;rw[r b f.1 f.2]
 refine⟨b,o,rfl,zo,λj p=>?_⟩;simp only[n];exact m j p
def da{w w':Qm}{v:Qn}{l:List Int}{B E:Nat}(d:aE w v l)(q:Sl B E v l.length)(t:w.heap.size<=w'.heap.size)(r: ∀k,B<=k->k<E->w'.heap[k]?=w.heap[k]?):aE w' v l:=by
 obtain⟨a,c,rfl,g,h,i⟩:=d;refine⟨a,c,rfl,g,h,λe=>?_⟩;obtain⟨b,o,rfl,s,m⟩:=i e;have f:=q (λd=>e (NI d)) b o none _ _ rfl;have n: ∀o',w'.cell? ⟨b,o',none⟩=w.cell? ⟨b,o',none⟩:=λo'=>by unfold World.cell?;rw[r b f.1 f.2]
 refine⟨b,o,rfl,zo,λj p=>?_⟩;rw[n];exact m j p
def fu{w:Qm}{v:Qn}{l:List ah}{B:Nat}(d:aH w v l)(h:iX B v):Sl B w.heap.size v l.length:=by
 obtain⟨a,c,rfl,i,j,f⟩:=d;intro g b o s m c e;obtain⟨k,o',rfl,n,p⟩:=f (λd=>g (by rw[d];rfl));have:=h b o s m c e;injection e with e;injection e with e;injection e with e
 omega
def jh{w:Qm}{v:Qn}{l:List Int}{B:Nat}(d:aE w v l)(h:iX B v):Sl B w.heap.size v l.length:=by
 obtain⟨a,c,rfl,i,j,f⟩:=d;intro g b o s m c e;obtain⟨k,o',rfl,n,p⟩:=f (λd=>g (by rw[d];rfl));have:=h b o s m c e;injection e with e;injection e with e;injection e with e
 omega
def ui{f:Type}{k:Nat}{enc:f->List Qn}{w:Qm}{v:Qn}{l:List f}{B:Nat}(d:aB k enc w v l)(i:iX B v):Sl B w.heap.size v l.length:=by
 obtain⟨a,c,rfl,j,g⟩:=d;intro h b o s m c e;obtain⟨n,o',rfl,p,q⟩:=g (λd=>h (by rw[d];rfl));have:=i b o s m c e;injection e with e;injection e with e;injection e with e
 omega
def Sl.mono{B E a d n:Nat}{v:Qn}(g:Sl B E v n)(h:a<=B)(i:E<=d):Sl a d v n:=λf b o s m c e=>by have:=g f b o s m c e;omega
def ms{f:Type}{k:Nat}{enc:f->List Qn}{w w':Qm}{v:Qn}{l:List f}{B E:Nat}(g:aB k enc w v l)(n:Sl B E v l.length)(o:w.heap.size<=w'.heap.size)(p: ∀k,B<=k->k<E->w'.heap[k]?=w.heap[k]?):aB k enc w' v l:=by
 refine g.step o λb e q=>?_
 obtain⟨a,c,rfl,r,s⟩:=g;cases a with
 |none=>exact e.elim
 |some a=>
  obtain⟨h,i⟩:=e;obtain⟨d,j,m⟩:=a;obtain rfl:d=b:=i;have:=n h d j m _ _ rfl;exact p d this.1 this.2
def rS(o:Option ay):Prop:= ∀r∈o,r.ok
abbrev bF:=Nat×Nat
def jA(p:bF):List Qn:= [.pointer (some ⟨p.1,0,none⟩)]
def bN.step{w w':Qm}{p b:Nat}{e:Int}{l:List ((ByteArray×Int)×aF)}(a:bN w p e b l)(c:w'.heap[p]?=w.heap[p]?)(d:w'.heap[b]?=w.heap[b]?):bN w' p e b l:=⟨c.trans a.blk,a.map.step d⟩
structure dX(w:Qm)(B E:Nat)(lv:Qn)(es:List Int)(tabs:List (Option ay))(ps:List bF):Prop where
 row:aB 1 jA w lv ps
 len:ps.length=tabs.length/\es.length=tabs.length
 sl:Sl B E lv ps.length
 tab: ∀(i:Nat) (p:bF),ps[i]?=some p->bN w p.1 (es.getD i 0) p.2 (fH (tabs.getD i none))
 iv: ∀(i:Nat) (p:bF),ps[i]?=some p->(B<=p.1/\p.1<E)/\(B<=p.2/\p.2<E)
 nodup:(ps.map (·.2)).Nodup
 ok: ∀o∈tabs,rS o
section
variable{w w':Qm}{B E:Nat}{lv:Qn}{es:List Int}{tabs:List (Option ay)}{ps:List bF}
def dX.step(a:dX w B E lv es tabs ps)(e:w.heap.size<=w'.heap.size)(d: ∀k,B<=k->k<E->w'.heap[k]?=w.heap[k]?):dX w' B E lv es tabs ps:=
 ⟨ms a.row a.sl e d,a.len,a.sl,λi p c=>(a.tab i p c).step (d _ (a.iv i p c).1.1 (a.iv i p c).1.2) (d _ (a.iv i p c).2.1 (a.iv i p c).2.2),a.iv,a.nodup,a.ok⟩
def dX.mono{c d:Nat}(a:dX w B E lv es tabs ps)(f:c<=B)(g:E<=d):dX w c d lv es tabs ps:=
 ⟨a.row,a.len,a.sl.mono f g,a.tab,λi p e=>by have:=a.iv i p e;omega,a.nodup,a.ok⟩
def vQ{c:Type}{l:List c}{i j:Nat}{x d:c}(e:i<l.length):(l.set i x).getD j d=if j=i then x else l.getD j d:=by
 simp only[Nr,Pq];by_cases a:i=j
 ·subst a;simp[e]
 ·simp[a,Ne.symm a]
def dX.okD(d:dX w B E lv es tabs ps)(k:Nat):rS (tabs.getD k none):=by
 rw[Nr];by_cases a:k<tabs.length
 ·rw[Np a];exact d.ok _ (NT a)
 ·rw[OW zo];intro r c;cases c
def dX.put(d:dX w B E lv es tabs ps){i:Nat}{p:bF}{o:Option ay}(J:rS o)(g:ps[i]?=some p)(n:Ch (·=p.2) w w')(K:bN w' p.1 (es.getD i 0) p.2 (fH o)):dX w' B E lv es (tabs.set i o) ps:=by
 obtain⟨L,M,r,_⟩:=(d.tab i p g).map;have u:i<ps.length:=(Ny.1 g).1;refine⟨d.row.ch n λb v y=>?_,by simpa using d.len,d.sl,λj q f=>?_,d.iv,d.nodup,λA k=>(Pf k).elim (d.ok A) (λe=>e▸J)⟩
 ·subst y
  obtain⟨a,c,rfl,_,C⟩:=d.row;have s:ps≠ []:=λe=>by rw[e] at g;simp at g
  obtain⟨D,o',rfl,N,F⟩:=C s;obtain⟨_,e⟩:=v;have e:D=p.2:=e;have H:0<ps.length:=zo
  have:=F 0 (.pointer (some ⟨(ps[0]'H).1,0,none⟩)) (by
   cases ps with
   |nil=>exact absurd rfl s
   |cons x l=>rfl)
  rw[e] at this;unfold World.cell? at this;simp[r] at this
 ·rw[vQ (by rw[<-d.len.1];exact u)]
  by_cases m:j=i
  ·subst m
   rw[g] at f;injection f with f;subst f
   simpa using K
  ·rw[NB m]
   have I:q.2≠p.2:=λe=>m (by
    have t:(ps.map (·.2))[j]?=some q.2:=by simp[f]
    have k:(ps.map (·.2))[i]?=some p.2:=by simp[g]
    rw[e,<-k] at t;exact(List.getElem?_inj (by simpa using(Ny.1 f).1) d.nodup).1 t)
   have h:=d.tab j q f;refine h.step (n.block _ (aa h.blk) λe=>?_) (n.block _ h.map.lt I);have:=h.blk;have e:q.1=p.2:=e;rw[e,r] at this;cases this
def dX.elem(d:dX w B E lv es tabs ps){i:Nat}(l:i<tabs.length): ∃a b o c p,lv= .slice (some ⟨b,o,none⟩) tabs.length c/\a=some (⟨b,o,none⟩:Addr)/\b<w.heap.size/\ps[i]?=some p/\w.cell? ⟨b,o+i,none⟩=some (.pointer (some ⟨p.1,0,none⟩))/\bN w p.1 (es.getD i 0) p.2 (fH (tabs.getD i none)):=by
 obtain⟨a,c,e,m⟩:=d.row;have f:ps[i]?=some (ps[i]'(by rw[d.len.1];exact l)):=Np _;have g:=d.row;rw[e] at g;obtain⟨b,o,rfl,h,k⟩:=g.elem (j:=i) (λ_=>rfl) f;refine⟨_,b,o,c,_,by rw[e,d.len.1],rfl,h,f,?_,d.tab i _ f⟩;have:=k 0 _ rfl;simpa using this
end
structure dJ where
 r:RV
 tabs:List (Option ay)
def dJ.es(τ:dJ):List Int:=τ.r.l.map (·.every)
structure hY(w:Qm)(B E t:Nat)(τ:dJ)(tv fv lv:Qn)(ps:List bF):Prop where
 blk:w.heap[t]?=some (.cells #[.int .i64 τ.r.now,.string τ.r.name,tv,fv,lv] 49)
 tiers:aH w tv τ.r.l/\Sl B t tv τ.r.l.length
 floors:aE w fv τ.r.fl/\Sl B t fv τ.r.fl.length
 tabs:dX w (t+1) E lv τ.es τ.tabs ps
 len:τ.tabs.length=τ.r.l.length
 iv:(B<=t/\t<E)/\E<=w.heap.size
def dY(w:Qm)(B E t:Nat)(τ:dJ):Prop:= ∃tv fv lv ps,hY w B E t τ tv fv lv ps
section
variable{w w':Qm}{B E t:Nat}{τ:dJ}{tv fv lv:Qn}{ps:List bF}
def hY.step(a:hY w B E t τ tv fv lv ps)(d:w.heap.size<=w'.heap.size)(e: ∀k,B<=k->k<E->w'.heap[k]?=w.heap[k]?):hY w' B E t τ tv fv lv ps:=
 ⟨(e t a.iv.1.1 a.iv.1.2).trans a.blk,⟨co a.tiers.1 a.tiers.2 d (λk c f=>e k c (by have:=a.iv;omega)),a.tiers.2⟩,⟨da a.floors.1 a.floors.2 d (λk c f=>e k c (by have:=a.iv;omega)),a.floors.2⟩,a.tabs.step d (λk c f=>e k (by have:=a.iv;omega) f),a.len,a.iv.1,Nq a.iv.2 d⟩
def hY.below(a:hY w B E t τ tv fv lv ps)(c:Qr w.heap.size w w'):hY w' B E t τ tv fv lv ps:=a.step c.size λk _ d=>c.block k (by have:=a.iv.2;omega)
def hY.reach(a:hY w B E t τ tv fv lv ps):cu w (.agg #[(τ.r.now:Int),τ.r.name,tv,fv]) τ.r:=⟨tv,fv,rfl,a.tiers.1,a.floors.1⟩
def dY.step(a:dY w B E t τ)(c:w.heap.size<=w'.heap.size)(d: ∀k,B<=k->k<E->w'.heap[k]?=w.heap[k]?):dY w' B E t τ:=by
 obtain⟨tv,fv,lv,ps,a⟩:=a;exact⟨tv,fv,lv,ps,a.step c d⟩
def dY.below(a:dY w B E t τ)(c:Qr w.heap.size w w'):dY w' B E t τ:=by
 obtain⟨tv,fv,lv,ps,a⟩:=a;exact⟨tv,fv,lv,ps,a.below c⟩
def eB{w:Qm}{b:Nat}{T:Qp}{a c d e f:Qn}(g:w.heap[b]?=some (.cells #[a,c,d,e,f] T)):
 w.cell? ⟨b,0,none⟩=some a/\w.cell? ⟨b,1,none⟩=some c/\w.cell? ⟨b,2,none⟩=some d/\w.cell? ⟨b,3,none⟩=some e/\w.cell? ⟨b,4,none⟩=some f:=by
 refine⟨?_,?_,?_,?_,?_⟩<;>(rw[NA w b _ _ _ _ g];rfl)
end
structure ew(w:Qm)(B:Nat)(v:Qn)(es:List Int)(tabs:List (Option ay))(ps:List bF):Prop where
 own:w.ownsRow B 118 1 v ps.length (ps.flatMap jA)
 len:ps.length=tabs.length/\es.length=tabs.length
 tab: ∀(i:Nat) (p:bF),ps[i]?=some p->bN w p.1 (es.getD i 0) p.2 (fH (tabs.getD i none))
 ge: ∀(i:Nat) (p:bF),ps[i]?=some p->B<=p.1/\B<=p.2
 nodup:(ps.map (·.2)).Nodup
 ok: ∀o∈tabs,rS o
section
variable{w w':Qm}{B:Nat}{v:Qn}{es:List Int}{tabs:List (Option ay)}{ps:List bF}
def ew.nil(w:Qm)(B:Nat):ew w B (.slice none 0 0) [] [] []:=⟨World.ownsRow_nil _ _ _ _,⟨rfl,rfl⟩,λi p a=>by simp at a,λi p a=>by simp at a,zm,λo a=>by cases a⟩
def ew.step(a:ew w B v es tabs ps)(d: ∀k,B<=k->k<w.heap.size->w'.heap[k]?=w.heap[k]?):ew w' B v es tabs ps:=
 ⟨aZ a.own λg e=>d g (ar a.own e).1 (ar a.own e).2.1,a.len,λi p c=>(a.tab i p c).step (d _ (a.ge i p c).1 (aa (a.tab i p c).blk)) (d _ (a.ge i p c).2 (a.tab i p c).map.lt),a.ge,a.nodup,a.ok⟩
def ew.below(c:ew w B v es tabs ps)(d:Qr w.heap.size w w'):ew w' B v es tabs ps:=c.step λk _ a=>d.block k a
def ew.set{P i:Nat}{y:Qn}(a:ew w B v es tabs ps)(d:P<B):ew (w.setCell ⟨P,i,none⟩ y) B v es tabs ps:=a.step λk c _=>af _ (by show k≠P;omega)
def ku{e:Type}{l:List e}{i:Nat}{x d:e}:(l++ [x]).getD i d=if i<l.length then l.getD i d else if i=l.length then x else d:=by
 simp only[Nr];by_cases a:i<l.length
 ·rw[OV a,NH a]
 ·rw[OE zo,NB a]
  by_cases c:i=l.length
  ·subst c;simp
  ·rw[NB c,OW zu];rfl
def ew.push{f:Qm}{v':Qn}{e:Int}{o:Option ay}{p b:Nat}(c:ew w B v es tabs ps)(H: ∀k,k<w.heap.size->v.ownBlock≠some k->f.heap[k]?=w.heap[k]?)
 (I:bN f p e b (fH o)) (J:rS o) (K:w.heap.size<=p) (L:w.heap.size<=b) (s:B<=w.heap.size) (M:f.ownsRow B 118 1 v' (ps.length+1) (ps.flatMap jA++jA (p,b))):
 ew f B v' (es++ [e]) (tabs++ [o]) (ps++ [(p,b)]):=by
 refine⟨by simpa using M,by simp[c.len],λi q a=>?_,λi q a=>?_,?_,λt u=>(Og.1 u).elim (c.ok t) (λe=>by simp at e;subst e;exact J)⟩
 ·by_cases j:i<ps.length
  ·rw[OV j] at a
   rw[ku,ku,NH (by have:=c.len;omega),NH (by have:=c.len;omega)];have l:=c.tab i q a
   have g: ∀(k:Nat) (o:Obj),w.heap[k]?=some o->(∀d,o≠Obj.cells d 118 (0,0))->f.heap[k]?=w.heap[k]?:=λk o n A=>H k (aa n) λe=>by
    obtain⟨_,_,d,h⟩:=ar c.own e;rw[n] at h;injection h with h
    exact A d h
   obtain⟨m,N,C,_⟩:=l.map;exact l.step (g _ _ l.blk λd e=>by injection e with O D;exact absurd D zd) (g _ _ C λd e=>by cases e)
  ·have E:i<ps.length+1:=by simpa using(Ny.1 a).1
   obtain rfl:i=ps.length:=zo;rw[OE zl] at a;simp at a;subst a;have F:=c.len;rw[ku,ku,NB (zo: ¬ps.length<es.length),NB (zo: ¬ps.length<tabs.length),NH (zo:ps.length=es.length),NH F.1];exact I
 ·by_cases j:i<ps.length
  ·rw[OV j] at a;exact c.ge i q a
  ·have E:i<ps.length+1:=by simpa using(Ny.1 a).1
   obtain rfl:i=ps.length:=zo;rw[OE zl] at a;simp at a;subst a;exact⟨Nq s K,Nq s L⟩
 ·rw[NU,PD]
  refine⟨c.nodup,zm,λx g y r=>?_⟩;simp at r;subst r;obtain⟨q,hq,rfl⟩:=OI.1 g;obtain⟨i,a,rfl⟩:=PE.1 hq;have:=(c.tab i _ (Np a)).map.lt;omega
def ew.done(a:ew w B v es tabs ps):dX w B w.heap.size v es tabs ps:=
 ⟨(aB.own a.own).1,a.len,ui (aB.own a.own).1 (aB.own a.own).2,a.tab,λi p c=>⟨⟨(a.ge i p c).1,aa (a.tab i p c).blk⟩,(a.ge i p c).2,(a.tab i p c).map.lt⟩,a.nodup,a.ok⟩
end
section
variable{w w':Qm}{B E t:Nat}{τ:dJ}{tv fv lv:Qn}{ps:List bF}
def gO(a:hY w B E t τ tv fv lv ps)(e:0<τ.tabs.length):Qo zP 119 #[t] w (aK w (.bool false)):=by
 obtain⟨_,b,o,c,p,rfl,-,-,-,-,-⟩:=a.tabs.elem e;obtain⟨c0,f,g,h,i⟩:=eB a.blk;have d:((τ.tabs.length:Int)==0)=false:=by rw[Od];omega
 go_enter func119,ntmps119;go_wp2;go_ret;exact⟨bu (by first|exact d|rfl),ND _ _⟩
def AS(H:Qs (hY w B E t τ tv fv lv ps))(e:0<τ.tabs.length)(k:Int)(m:aQ k)(n:τ.tabs.length<=100):Qo zP 90 #[t,k] w (aK w (.bool (decide (0<=k)&&decide (k<τ.tabs.length)))):=by
 go_enter func90,ntmps90;go_wp2_with fail;refine zb (gO H e) λg a=>?_
 have d:=H.below a;obtain⟨_,b,o,c,p,rfl,-,-,-,-,-⟩:=d.tabs.elem e;obtain⟨c0,h,i,j,l⟩:=eB d.blk;by_cases f:0<=k
 ·go_wp2
  go_ret;exact⟨bu (by rw[NV f,PT]),a⟩
 ·go_wp2
  go_ret;exact⟨bu (by rw[NQ (zo: ¬0<=k),Bool.false_and]),a⟩
def Fw(w:Qm)(e:Int)(o:Option ay)(x:Qq)(w':Qm):Prop:= ∃p b,x= .returned (.pointer (some ⟨p,0,none⟩))/\Qs (bN w' p e b (fH o))/\w.heap.size<=p/\w.heap.size<=b/\Qs (Qr w.heap.size w w')
def lA(H:Qs (hY w B E t τ tv fv lv ps))(k:Nat)(s:k<τ.tabs.length)(u:τ.tabs.length<=100):Qo zP 46 #[t,(k:Int)] w (Fw w (τ.es.getD k 0) (τ.tabs.getD k none)):=by
 have l:(k:Int)<τ.tabs.length:=zo;have m:0<τ.tabs.length:=zo;go_enter func46,ntmps46;go_wp2_with fail;refine zb (AS H m k (by unfold aQ;omega) u) λv a=>?_
 rw[NV (zo:(0:Int)<=k),NV l,PT];have g:=H.below a;obtain⟨_,b,o,c,p,rfl,-,x,-,y,h⟩:=g.tabs.elem s;obtain⟨c0,A,C,D,F⟩:=eB g.blk;have n:=zh h;clear h;go_wp2_with fail;refine(nE n).mono ?_;rintro e I ⟨q,d,rfl,hq,i,j,r⟩;have f:=zh (And.intro hq (And.intro i (And.intro j r)));clear i j;go_wp2;go_ret;exact⟨q,d,rfl,f.1,Nq a.size f.2.1,Nq a.size f.2.2.1,ai a f.2.2.2⟩
def gG(H:Qs (hY w B E t τ tv fv lv ps))(k:Nat)(g:k<τ.tabs.length)(h:τ.tabs.length<=100):Qo zP 15 #[t,(k:Int)] w (AQ w (τ.tabs.getD k none).toList):=by
 go_enter func15,ntmps15;go_wp2_with fail;refine(lA H k g h).mono ?_;rintro e i ⟨p,b,rfl,c,-,-,a⟩;go_wp2_with fail;refine(ft c).mono ?_;rintro e j ⟨v,rfl,d,f⟩;go_wp2;go_ret;exact⟨v,rfl,cj d a.size,ai a f⟩
def cz(tabs:List (Option ay))(k:Nat):Int:=((tabs.take k).map gd).sum
def qL{tabs:List (Option ay)}{k:Nat}(a:k<tabs.length):cz tabs (k+1)=cz tabs k+gd (tabs.getD k none):=by
 unfold cz;rw[NE a,NU,List.sum_append];simp[a]
def fw(tabs:List (Option ay)): ∀k,0<=cz tabs k/\cz tabs k<=k
 |0=>by simp[cz]
 |k+1=>by
  have a:=fw tabs k;by_cases c:k<tabs.length
  ·rw[qL c];unfold gd;split<;>omega
  ·unfold cz at a⊢;rw[NC zo] at a⊢;omega
def iL(H:Qs (hY w B E t τ tv fv lv ps))(A:0<τ.tabs.length)(b4:τ.tabs.length<=100):Qo zP 84 #[t] w (aK w (.int .i64 (cz τ.tabs τ.tabs.length))):=by
 go_enter func84,ntmps84;go_wp2_with fail;refine zb (gO H A) λa0 s=>?_
 have u:=H.below s;obtain⟨_,b,o,c,p,rfl,-,-,-,-,-⟩:=u.tabs.elem A;obtain⟨c0,C,D,F,I⟩:=eB u.blk;go_wp2_with fail;go_loopw [3,13] (λa i wr=> ∃k:Nat,k<=τ.tabs.length/\i= .int .i64 k/\a= .int .i64 (cz τ.tabs k)/\Qs (Qr w.heap.size w wr)) (λa i _=>τ.tabs.length-(intOf i).toNat)
 case atStart=>exact⟨0,Nx _,rfl,rfl,s⟩
 case round=>
  obtain⟨k,a1,rfl,rfl,g⟩:=hrel;have d:=H.below g;obtain⟨c0,C,D,F,I⟩:=eB d.blk;by_cases h:k<τ.tabs.length
  ·obtain⟨_,a2,o',c',p,e,-,a3,-,a4,l⟩:=d.tabs.elem h
   injection e with f a5 J;injection f with f;injection f with f K;subst f K J
   have L:k<τ.r.l.length:=by rw[<-d.len];exact h
   obtain⟨a6,a7,et,-⟩:=id d.tiers.1;subst et;obtain⟨a8,a9,rfl,b0,⟨M,N,O,P⟩,v,-⟩:=bS d.tiers.1 L;have Q:=fw τ.tabs k;have R:=fw τ.tabs (k+1);have m:=d.tabs.okD k;have j:=qL h;obtain⟨T,x⟩:=zx (τ.tabs.getD k none);obtain⟨S,y⟩:=zx ((τ.r.l.getD k ah.zero).shards);have n:=v.2.2.2;rw[<-x] at l m j;rw[<-y] at P n;have U:=zh l;have V:=zh n;have W:=zh m;have X:=zh j;obtain⟨b1,q⟩:=zy (cz τ.tabs k);obtain⟨b2,r⟩:=zy (gd T);rw[j,<-q,<-r] at R;rw[<-q] at Q⊢;clear l v n x y m j M N O;go_wp2_with fail;refine zb (Cv U W S V) λb3 Y=>?_
   have Z:=aI g Y g.size;rw[<-r];go_wp2;go_roundw
   case rel=>exact⟨k+1,h,by go_num,by rw[X,<-q,<-r],Z⟩
   case measure=>simp[intOf];omega
  ·obtain rfl:k=τ.tabs.length:=zo
   go_wp2;go_ret;exact⟨rfl,g⟩
end
def uj:(zP.info? 118).map (λi=>(i.zero,i.size,i.bytes))=some (some (.pointer none),1,8):=zk
def bN.drew{w:Qm}{p b:Nat}{e:Int}{l:List ((ByteArray×Int)×aF)}(a:bN w p e b l):bN w.drew p e b l:=⟨a.blk,a.map⟩
def ji{a:Type}{l:List a}{k:Nat}{d:a}(c:k<l.length):l.take (k+1)=l.take k++ [l.getD k d]:=by
 rw[NE c];simp[c]
structure nF(wS w:Qm)(P j:Nat)(cs:Array Qn)(T:Qp)(v:Qn)(es:List Int)(tabs:List (Option ay))(ps:List bF):Prop where
 blk:w.heap[P]?=some (.cells (cs.setIfInBounds j v) T)
 ch:Ch (·=P) wS w
 tabs:ew w (P+1) v es tabs ps
 lt:P+1=wS.heap.size
 j:j<cs.size
section
variable{wS w w' w6 w7:Qm}{P j q d:Nat}{cs:Array Qn}{T:Qp}{e:Int}{o:Option ay}{v v6:Qn}{ps:List bF}{es:List Int}{tabs:List (Option ay)}
def nF.start(d:wS.heap[P]?=some (.cells cs T))(e:P+1=wS.heap.size)(f:cs[j]?=some (.slice none 0 0)):nF wS wS P j cs T (.slice none 0 0) [] [] []:=by
 obtain⟨a,c⟩:=ON.1 f;exact⟨by rw[d];congr 2;rw[<-c,Array.setIfInBounds_def,dif_pos a];exact(Array.set_getElem_self a).symm,Ch.refl _ _,ew.nil _ _,e,a⟩
def nF.cell(a:nF wS w P j cs T v es tabs ps):w.cell? ⟨P,j,none⟩=some v/\w.frozen? ⟨P,j,none⟩=false:=by
 refine⟨?_,ad a.blk⟩;rw[NA w P _ _ _ _ a.blk];simp[a.j]
def nF.own(a:nF wS w P j cs T v es tabs ps):v.ownBlock≠some P:=λe=>by have:=(ar a.tabs.own e).1;omega
def nF.size(a:nF wS w P j cs T v es tabs ps):P<w.heap.size:=aa a.blk
def nF.below(a:nF wS w P j cs T v es tabs ps)(c:Qr w.heap.size w w'):nF wS w' P j cs T v es tabs ps:=⟨ab a.blk c,a.ch.trans (Ch.fresh c),a.tabs.below c,a.lt,a.j⟩
def nF.push(f:nF wS w P j cs T v es tabs ps)(h:Qr w.heap.size w w6)(p:bN w6 q e d (fH o))(B:rS o)(hq:w.heap.size<=q)(s:w.heap.size<=d)
 (g:(w6.alloc (.cells #[q] 118)).grownBy w7 v.ownBlock) (t:w7.ownsRow (P+1) 118 1 v6 (ps.length+1) (ps.flatMap jA++ [(q,d)].flatMap jA)):
 nF wS (w7.setCell ⟨P,j,none⟩ v6) P j cs T v6 (es++ [e]) (tabs++ [o]) (ps++ [(q,d)])/\w7.cell? ⟨P,j,none⟩=some v/\w7.frozen? ⟨P,j,none⟩=false/\ ∃a c,v6= .slice a (ps.length+1) c:=by
 have C:=h.size;have u:=f.size;have x:=g.size;have D:w6.heap.size+1<=w7.heap.size:=by simpa using x
 have l: ∀k,k<w.heap.size->v.ownBlock≠some k->w7.heap[k]?=w.heap[k]?:=λk i m=>by
  rw[g.block k zu (λe=>m e.symm),ze.block k zo,h.block k i]
 have r: ∀k,w.heap.size<=k->some k≠v.ownBlock:=λk i e=>by have:=(ar f.tabs.own e.symm).2.1;omega
 have y:bN w7 q e d (fH o):=(p.below ze).step (g.block q (by have:=aa p.blk;simp;omega) (r q hq)) (g.block d (by have:=p.map.lt;simp;omega) (r d s));have n:=(l P u f.own).trans f.blk;have A:=f.lt;have E:=f.ch.size;refine⟨⟨?_,?_,?_,A,f.j⟩,?_,ad n,az t⟩
 ·rw[al n];simp
 ·exact aP ⟨(g.os.trans h.os).trans f.ch.os,(g.tape.trans h.tape).trans f.ch.tape,(g.output.trans h.output).trans f.ch.output,zo,λk i m=>(l k zo λe=>by have:=(ar f.tabs.own e).1;omega).trans (f.ch.block k i m)⟩ (.inl rfl)
 ·exact(f.tabs.push l y B hq s zo (by simpa[jA] using t)).set zo
 ·rw[NA _ _ _ _ _ _ n];simp[f.j]
end
def JB(w:Qm)(τ:dJ)(e:Qq)(w':Qm):Prop:= ∃t,e= .returned (.pointer (some ⟨t,0,none⟩))/\Qs (dY w' w.heap.size w'.heap.size t τ)/\Qs (Qr w.heap.size w w')
def nF.tiers{w0 a w:Qm}{r:RV}{tv fv v:Qn}{es:List Int}{tabs:List (Option ay)}{ps:List bF}(d:nF (a.alloc (.cells #[(r.now:Int),r.name,tv,fv,z0] 49)) w a.heap.size 4 #[(r.now:Int),r.name,tv,fv,z0] 49 v es tabs ps)
 (n:dD w0.heap.size a (.agg #[(r.now:Int),r.name,tv,fv]) r) (f:Qr w0.heap.size w0 a) (o:es=r.l.map (·.every)) (p:tabs.length=r.l.length):dY w w0.heap.size w.heap.size a.heap.size ⟨r,tabs⟩/\Qr w0.heap.size w0 w:=by
 obtain⟨tv',s,e,g,h,j,l⟩:=n;injection e with e
 simp only[PH,Pp,and_true,true_and] at e;obtain⟨rfl,rfl⟩:=e;have m:=d.size;have c: ∀k,k<a.heap.size->w.heap[k]?=a.heap[k]?:=λk c=>(d.ch.block k zu (by show k≠_;omega)).trans (ze.block k c)
 refine⟨⟨tv,fv,v,ps,d.blk,⟨co g (fu g j) zo (λk _ i=>c k i),fu g j⟩,⟨da h (jh h l) zo (λk _ i=>c k i),jh h l⟩,by subst o;exact d.tabs.done,p,⟨f.size,m⟩,Nt _⟩,?_⟩;exact(d.ch.below (B:=a.heap.size) (λk c=>zo) zm).mono f.size|>λq=>(f.alloc f.size _).trans q
section
variable{w w' w0 w2:Qm}{B E t P:Nat}{τ:dJ}{r:RV}{tv fv lv v v':Qn}{ps:List bF}{es:List Int}{tabs:List (Option ay)}
def dD.mono{B a:Nat}{w:Qm}{v:Qn}{r:RV}(i:dD B w v r)(c:a<=B):dD a w v r:=by
 obtain⟨tv,fv,d,e,f,g,h⟩:=i;exact⟨tv,fv,d,e,f,g.mono c,h.mono c⟩
def Iu(B:Nat)(e:Int)(o:Option ay):br kM:= .rel (λv w=> ∃p b,v= .pointer (some ⟨p,0,none⟩)/\B<=p/\B<=b/\bN w p e b (fH o)) (λ_ _ _ a c=>by obtain⟨p,b,d,f,g,h⟩:=a;exact⟨p,b,d,f,g,h.below c⟩)
def Kk(B:Nat)(r:RV):br kM:= .rel (λv w=>dD B w v r) (λ_ _ _ a c=>a.below c)
def fU(H:Qs (hY w B E t τ tv fv lv ps))(b9:τ.tabs.length<=100)(d2:τ.r.fl.length<=100):Qo zP 31 #[t] w (JB w τ):=by
 obtain⟨c0,T,U,V,K⟩:=eB H.blk;have v:=aa H.blk;have c1:τ.r.l.length<=100:=by rw[<-H.len];exact b9
 obtain⟨a1,a2,a3,a4,a5⟩:=info_parts uj;go_enter func31,ntmps31;go_wp2_with fail;refine zJ w 16 (zL [?_,?_,?_,?_,?_,?_,?_,?_,?_,?_,?_,?_,?_,?_,?_]++(Kk w.heap.size τ.r):: []) zq ?_;rotate_right
 iterate 15
  refine zV ?_
 refine aT zk rfl rfl ?_ λa6=>?_
 ·intro c2 h L M m;have c3:=h.2;go_simp;refine(AG _ _ τ.r.now τ.r.name τ.r.l τ.r.fl _ ⟨_,rfl,H.tiers.1.below h.1⟩ (H.floors.1.below h.1) zo zo).mono ?_;rintro e w2 ⟨u,rfl,a7,W⟩;exact m.out _ _ _ zg (a7.mono h.1.size) W
 simp only[zS];refine nD zk rfl rfl rfl (λn h L _=>?_);obtain⟨tv',r,a8,A⟩:dD w.heap.size n a6 τ.r:=L.out 15;subst a8;have N:=zh h.1;have a9:=zh (show dD w.heap.size n (.agg #[(τ.r.now:Int),τ.r.name,tv',r]) τ.r from⟨tv',r,rfl,A⟩);have b0:=nF.start (j:=4) (ag (w:=n) (o:= .cells #[(τ.r.now:Int),τ.r.name,tv',r,z0] 49) rfl) zm rfl;clear L h A c0 T U V K;have s:=H.below (ai N (ak _ (.cells #[(τ.r.now:Int),τ.r.name,tv',r,z0] 49)));obtain⟨c0,T,U,V,K⟩:=eB s.blk;obtain⟨a,c,e,-⟩:=id s.tabs.row;subst e;have b1:=s.tabs.len.1;rw[b1] at K H s;go_wp2_with fail;go_loopw [31] (λi wr=> ∃(k:Nat) (O:List bF) (v':Qn),k<=τ.tabs.length/\i= .int .i64 k/\Qs (nF (n.alloc (.cells #[(τ.r.now:Int),τ.r.name,tv',r,z0] 49)) wr n.heap.size 4 #[(τ.r.now:Int),τ.r.name,tv',r,z0] 49 v' (τ.es.take k) (τ.tabs.take k) O)) (λi _=>τ.tabs.length-(intOf i).toNat)
 case atStart=>exact⟨0,[],_,Nx _,rfl,b0⟩
 case round=>
  obtain⟨k,O,v',b2,rfl,g⟩:=hrel;have C:=s.step g.ch.size λk _ b2=>g.ch.block k (by have:=s.iv.2;omega) (by have:=H.iv.2;have:=N.size;show k≠_;omega)
  by_cases v:k<τ.tabs.length
  ·obtain⟨_,c4,o',c',p,e,-,W,P,Q,X⟩:=C.tabs.elem v
   injection e with b3 c5 b4;subst b3 b4
   have b5:=zh X;obtain⟨I,-⟩:=g.cell;clear X P;go_wp2_with fail;refine aC (S:=(λw'=>w'.cell? ⟨n.heap.size,4,none⟩=some v')) 11 zk ?_ (λf=>?_)
   ·(first|exact I|exact ae f D|exact ae f ze|exact F _ _ f g.own)
   refine zU 0 ?_;refine zU 1 ?_;refine zU 2 ?_;refine zU 3 ?_;refine zU 4 ?_;refine zU 5 ?_;refine zO 6 λM m=>?_
   go_simp;refine(nE b5.drew).mono ?_;rintro e c6 ⟨q,d,rfl,hq,b6,b7,D⟩;have J:=ec D;refine zE m (by first|exact I|exact ae f D|exact ae f ze|exact F _ _ f g.own) λf=>?_
   refine zO 7 λM m=>?_
   go_simp
   skip
   refine zE m (by first|exact I|exact ae f D|exact ae f ze|exact F _ _ f g.own) λf=>?_
   refine zO 8 λM m=>?_
   rw[NH (by simp[Region.wanted])];refine cY (enc:=jA) _ _ 47 rfl (n.heap.size+1) 118 a1 _ 8 underlying47 a2 a3 a4 a5 rfl zd _ _ _ _ [(q,d)] rfl (aS (aS g.tabs.own J) ze) rfl (bC 1 (c:=1) (l:= [(q,d)]) (ag rfl) rfl ⟨Nt 1,zd⟩) (λ_=>rfl) (by intro x y Y;simp only[jA,NL,NJ,Ou] at Y;subst Y;rfl) (show(O.length+1)*8<140737488355328 by have:=g.tabs.len;simp at this;omega) zd (by have:=J.size;have:=g.lt;have:=g.size;simp;omega) (λc7 w7 Z R=>?_);have F:=λ(p:Addr) (x:Qn) (Q:World.cell? _ p=some x) (P:v'.ownBlock≠some p.block)=>(World.cell?_of_block (a:=p) (R.block p.block (Nv _ _ Q) (λe=>P e.symm))).trans Q
   refine zE m (by first|exact I|exact ae f D|exact ae f ze|exact F _ _ f g.own) λf=>?_
   refine zU 9 ?_;refine zU 10 ?_;refine zF ?_;obtain⟨a0,c8,c9,d0,d1,rfl⟩:=g.push J hq (C.tabs.okD k) b6 b7 R Z;have b8:=zh a0;clear a0 f Z R J F;go_wp2;go_roundw
   case rel=>exact⟨k+1,_,_,v,by go_num,by rw[ji (d:=0) (show k<τ.es.length by rw[C.tabs.len.2];exact v),ji (d:=none) v];exact b8⟩
   case measure=>simp[intOf];omega
  ·obtain rfl:k=τ.tabs.length:=zo
   go_wp2;go_ret;have A:=g.tiers a9 N (by rw[NC (by have:=C.tabs.len;omega)];rfl) (by rw[NC zl];exact C.len);rw[NC zl] at A;exact⟨_,rfl,A⟩
end
def iM(l:List ah)(a:List Int):Prop:=a.length<=l.length/\ ∀k,k<a.length->0<=a.getD k 0/\lS (a.getD k 0) (l.getD k ah.zero).every=true
def Fx(w:Qm)(τ:dJ)(e:Qq)(w':Qm):Prop:= ∃t,e= .returned (.tuple #[.pointer (some ⟨t,0,none⟩),.int .i64 0])/\Qs (dY w' w.heap.size w'.heap.size t τ)/\Qs (Qr w.heap.size w w')
def aN{n:ByteArray}{l:List ah}(m:cD n l=true):l.length<=5/\1<=l.length/\ ∀k,k<l.length->1<=(l.getD k ah.zero).every:=by
 obtain⟨-,⟨g,h⟩,f⟩:=df m;refine⟨h,g,λk=>?_⟩
 induction k with
 |zero=>
  intro c;obtain⟨-,-,-,a|⟨i,x,a,-⟩⟩:=cZ (f 0 c)
  ·omega
  ·simp at a
 |succ k j=>
  intro c;have d:k<l.length:=zo;obtain⟨-,-,-,a|⟨i,x,a,-,o,-⟩⟩:=cZ (f (k+1) c)
  ·omega
  ·rw[NE d] at a
   have e:=(List.append_inj' a rfl).2;injection e with e
   have:=j d;rw[show l.getD k ah.zero=x by rw[<-e];simp[d]] at this;omega
def dJ.empty(r:RV):dJ:=⟨r,List.replicate r.l.length none⟩
def kw{w:Qm}{c5 c6:Qn}{r:RV}(H:Qs (aH w c5 r.l))(v:aE w c6 r.fl)(F:Qs (cD r.name r.l=true))(i3:0<=r.now/\r.now<=1099511627776)(c7:Qs (iM r.l r.fl)):
 Qo zP 113 #[.agg #[r.name,c5],(r.now:Int),c6] w (Fx w (dJ.empty r)):=by
 have b1:=zh v;obtain⟨c8,c9,d0,d1,d2⟩:=info_parts uj;have f8:aQ r.now:=by unfold aQ;omega
 have f9:=c7.1;have g0:=(aN F).1;have g1:=(aN F).2.1;obtain⟨d3,d4,et,-⟩:=id H;subst et;obtain⟨g2,g3,d5,-⟩:=id v;subst d5;have g4:=zi (r.now<0);have g5:=zi (1099511627776<r.now);have g6:=zi (r.l.length<r.fl.length);clear v;go_enter func113,ntmps113;go_wp2_with fail;refine zb (eR (n:=r.name) (l:=r.l) ⟨_,rfl,H.below ze⟩ F) λb2 d6=>?_
 obtain⟨K,b3⟩:=bl d6;have d7:=zh K;have d8:=zh b3;obtain⟨c0,a0⟩:=bE K;have m:=aa K;clear K b3;go_wp2_with fail;go_loopw [39] (λi wr=> ∃k:Nat,k<=r.fl.length/\i= .int .i64 k/\Qs (Qr b2.heap.size b2 wr)) (λi _=>r.fl.length-(intOf i).toNat)
 case atStart=>exact⟨0,Nx _,rfl,zh zr⟩
 case round=>
  obtain⟨k,a1,rfl,a2⟩:=hrel;have B2:=ai d8 a2;have a3:=zh (ab d7 a2);obtain⟨c0,a0⟩:=bE a3;have g7:=aa a3;by_cases m:k<r.fl.length
  ·obtain⟨g8,g9,e,b4,-,b5⟩:=b1.below B2
   injection e with d9 _ e0;subst d9 e0
   obtain⟨h0,o',rfl,h1,b6⟩:=b5 (λe=>by rw[e] at m;exact absurd m (Oy _));have L:=b6 k m;have e1:k<r.l.length:=zo;obtain⟨e2,e3,rfl,e4,⟨M,N,O,P⟩,A,-⟩:=bS (H.below B2) e1;obtain⟨e5,Q⟩:=c7.2 k m;have a4:=A.2.1;obtain⟨f,v⟩:=zx (r.fl.getD k 0);obtain⟨ev,b7⟩:=zx ((r.l.getD k ah.zero).every);rw[<-v] at L e5 Q;rw[<-b7] at N Q a4;have e6:=zh Q;have a5:=zh a4;have e7:=zh (show aQ f by rw[v];exact b4 _ (by rw[Nr,Np m];exact NT m));clear b4 b5 b6 A v b7 a4 Q M O P;go_wp2_with fail;refine(tM _ _ _ e7 a5).mono ?_;rintro e h2 ⟨rfl,a6⟩;have a6:=a6.symm;subst a6;rw[e6];go_wp2;go_roundw
   case rel=>exact⟨k+1,m,by go_num,a2⟩
   case measure=>simp[intOf];omega
  ·go_wp2_with fail
   refine(AG _ _ r.now r.name r.l r.fl _ ⟨_,rfl,H.below B2⟩ (b1.below B2) zo zo).mono ?_;rintro e C ⟨u,rfl,⟨tv',D,rfl,R⟩,b8⟩;have a7:=ai B2 b8;have e8:=zh (show dD w.heap.size C (.agg #[(r.now:Int),r.name,tv',D]) r from dD.mono ⟨tv',D,rfl,R⟩ B2.size);have e9:=nF.start (j:=4) (ag (w:=C) (o:= .cells #[(r.now:Int),r.name,tv',D,z0] 49) rfl) zm rfl;have f0:=zh (ab (ab a3 b8) (ak _ (.cells #[(r.now:Int),r.name,tv',D,z0] 49)));clear R c0 a0;obtain⟨c0,a0⟩:=bE f0;go_wp2_with fail;go_loopw [67] (λi wr=> ∃(k:Nat) (a8:List bF) (v':Qn),k<=r.l.length/\i= .int .i64 k/\Qs (nF (C.alloc (.cells #[(r.now:Int),r.name,tv',D,z0] 49)) wr C.heap.size 4 #[(r.now:Int),r.name,tv',D,z0] 49 v' ((r.l.map (·.every)).take k) (List.replicate k none) a8)) (λi _=>r.l.length-(intOf i).toNat)
   case atStart=>exact⟨0,[],_,Nx _,rfl,e9⟩
   case round=>
    obtain⟨k,a8,v',a1,rfl,h⟩:=hrel;have h3:=a7.size;have f1:=zh (show aH wr (.slice d3 r.l.length d4) r.l from co (B:=0) (E:=w.heap.size) H (fu H (λ_ _ _ _ _ _=>Nx _)) (by have:=h.size;omega) (λk _ a1=>(h.ch.block k zu (by show k≠_;omega)).trans ((ze.block k zo).trans (a7.block k a1))));by_cases m:k<r.l.length
    ·obtain⟨e2,e3,rfl,e4,⟨M,N,O,P⟩,A,-⟩:=bS f1 m
     obtain⟨T,U⟩:=zx (r.l.getD k ah.zero);rw[<-U] at M N O P A;have h4:1<=T.every:=by rw[U];exact(aN F).2.2 k m
     have f2:=zh (show(r.l.map (·.every)).getD k 0=T.every by rw[U];simp[m]);have a5:=zh A.2.1;have f3:max T.every 1=T.every:=zo;obtain⟨V,I⟩:=zx (wr.alloc (.cells #[T.name,(T.every:Int),(T.keep:Int),(T.shards:Int)] 116));have h5:wr.heap.size<V.heap.size:=by rw[I];simp
     have a9:=zh (show nF _ V _ _ _ _ _ _ _ _ by rw[I];exact h.below ze);obtain⟨W,-⟩:=a9.cell;have b9:V.heap[wr.heap.size]?=some (.cells #[T.name,(T.every:Int),(T.keep:Int),(T.shards:Int)] 116):=by rw[I];exact ag rfl
     have X:V.cell? ⟨wr.heap.size,1,none⟩=some (.int .i64 T.every):=by rw[NA _ _ _ _ _ _ b9];rfl
     have Y:v'.ownBlock≠some wr.heap.size:=λe=>by have:=(ar h.tabs.own e).2.1;omega
     have h6:=h.size;clear b9 A U;go_wp2_with fail;rw[<-I];clear I M N O P h;have h:=a9;clear a9;refine aC (S:=(λw'=>w'.cell? ⟨C.heap.size,4,none⟩=some v'/\w'.cell? ⟨wr.heap.size,1,none⟩=some (.int .i64 T.every))) 12 zk ?_ (λg=>?_)
     ·(first|exact⟨W,X⟩|exact⟨ae g.1 s,ae g.2 s⟩|exact⟨ae g.1 ze,ae g.2 ze⟩|exact⟨t _ _ g.1 h.own,t _ _ g.2 Y⟩)
     refine zU 0 ?_;refine zU 1 ?_;refine zU 2 ?_;refine zU 3 ?_;refine zU 4 ?_;refine zU 5 ?_;refine zU 6 ?_;refine zO 7 λc1 J=>?_
     go_simp;refine(qw T.every _ a5).mono ?_;rintro e h7 ⟨q,d,rfl,hq,f4,f5,s⟩;rw[f3] at hq;have Z:=ec s;refine zE J (by first|exact⟨W,X⟩|exact⟨ae g.1 s,ae g.2 s⟩|exact⟨ae g.1 ze,ae g.2 ze⟩|exact⟨t _ _ g.1 h.own,t _ _ g.2 Y⟩) λg=>?_
     refine zO 8 λc1 J=>?_
     go_simp
     skip
     refine zE J (by first|exact⟨W,X⟩|exact⟨ae g.1 s,ae g.2 s⟩|exact⟨ae g.1 ze,ae g.2 ze⟩|exact⟨t _ _ g.1 h.own,t _ _ g.2 Y⟩) λg=>?_
     refine zO 9 λc1 J=>?_
     rw[NH (by simp[Region.wanted])];refine cY (enc:=jA) _ _ 47 rfl (C.heap.size+1) 118 c8 _ 8 underlying47 c9 d0 d1 d2 rfl zd _ _ _ _ [(q,d)] rfl (aS (aS h.tabs.own Z) ze) rfl (bC 1 (c:=1) (l:= [(q,d)]) (ag rfl) rfl ⟨Nt 1,zd⟩) (λ_=>rfl) (by intro x y c2;simp only[jA,NL,NJ,Ou] at c2;subst c2;rfl) (show(a8.length+1)*8<140737488355328 by have:=h.tabs.len;simp at this;omega) zd (by have:=Z.size;have:=h.lt;have:=h.size;simp;omega) (λh8 w7 c3 b0=>?_);have t:=λ(p:Addr) (x:Qn) (L:World.cell? _ p=some x) (F:v'.ownBlock≠some p.block)=>(World.cell?_of_block (a:=p) (b0.block p.block (Nv _ _ L) (λe=>F e.symm))).trans L
     refine zE J (by first|exact⟨W,X⟩|exact⟨ae g.1 s,ae g.2 s⟩|exact⟨ae g.1 ze,ae g.2 ze⟩|exact⟨t _ _ g.1 h.own,t _ _ g.2 Y⟩) λg=>?_
     refine zU 10 ?_;refine zU 11 ?_;refine zF ?_;obtain⟨c4,h9,i0,i1,i2,rfl⟩:=h.push (o:=none) Z hq (λ_ f6=>nomatch f6) f4 f5 b0 c3;have f7:=zh c4;clear c4 g c3 b0 Z t;go_wp2;go_roundw
     case rel=>exact⟨k+1,_,_,m,by go_num,by rw[ji (d:=0) (show k<(r.l.map (·.every)).length by simpa using m),List.replicate_succ',f2];exact f7⟩
     case measure=>simp[intOf];omega
    ·obtain rfl:k=r.l.length:=zo
     go_wp2;go_ret2;have R:=h.tiers e8 a7 (by rw[NC zm]) zm;exact⟨_,rfl,R⟩
end Go.Proofs.YtdflhgceeloijaaGreatDoor
