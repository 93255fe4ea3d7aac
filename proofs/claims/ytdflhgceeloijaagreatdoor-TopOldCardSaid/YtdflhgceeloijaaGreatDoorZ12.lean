import Derived.Test.YtdflhgceeloijaaGreatDoorZ1
import Derived.Test.YtdflhgceeloijaaGreatDoorZ2
import Derived.Test.YtdflhgceeloijaaGreatDoorZ4
import Derived.Test.YtdflhgceeloijaaGreatDoorZ6
import Derived.Test.YtdflhgceeloijaaGreatDoorZ8
import Derived.Test.YtdflhgceeloijaaGreatDoorZ9
import Derived.Test.YtdflhgceeloijaaGreatDoorZ11
set_option linter.all false
set_option maxRecDepth 100000
set_option maxHeartbeats 16000000
namespace Go.Proofs.YtdflhgceeloijaaGreatDoor
open Go Go.RowKit Tryz
open Tryz renaming prog→zP
open Go renaming World→Qm,Value→Qn,Calls→Qo,TypeId→Qp,Ending→Qq
open Go.RowKit renaming Below→Qr,Hid→Qs
def ob(c:bI)(L:List aA):au:=⟨26,⟨nX c,fb c.pl.length L⟩,none⟩
def Jm(w:Qm)(B dp f:Nat)(d:DV)(c:bI)(rf:Int->ay)(y:Qq)(w':Qm):Prop:=
 ∃(e:Nat) (S a:aM) (b:SB) (L:List aA),y= .returned (.tuple #[e,()])/\Qs (bB w' e [] 82 a b (ob c L))/\Qs (oT S (ob c L) a)/\
  Qs (S.dp=dp/\S.B=B/\S.c=f/\S.d=d/\S.gen=c.gen/\S.id=c.id/\S.ps=L/\S.lg=none/\S.bad=0/\S.V.pure=dm L)/\L.map aA.key4=c.es.map bj.key/\Qs (∀p∈L,p.r=rf p.blk)/\
  Qs (Ch (cL w dp) w w')/\Qs (∀k,EF w' e a b k->cL w dp k\/w.heap.size<=k)
def DA{B dp M:Nat}{B0:Nat}{w:Qm}{d:DV}{c:bI}{m N:Int}{rf:Int->ay}(a3:cl B0 w)(a4:w.cell? ⟨0,0,none⟩=some (.int .i64 m))(a5:0<w.heap.size)(b5:Qs (bg w B dp M d))(a6:Qs (∀k,cL w dp k->B0<=k))(b6:Qs (uB d c rf))
 (b7:Qs (∀(S:aM) (L:List aA),S.c=M->S.d=d->S.gen=c.gen->S.id=c.id->S.ps=L->S.V.pure=dm L->L.map aA.key4=c.es.map bj.key->(∀p∈L,p.r=rf p.blk)->dZ S (ob c L) N)):Qo zP 172 #[dp] w (Jm w B dp M d c rf):=by
 have q:=zh (And.intro a3 (And.intro a4 a5));clear a3 a4 a5;go_enter func172,ntmps172;go_wp2_with fail;refine(Du q.1 q.2.1 q.2.2 b5 b6).mono ?_;rintro y u ⟨x,b,L,S,b8,b9,rfl,f⟩;go_wp2_with fail;go_loopw [27] (λi wr=>i= .int .i64 0/\wr=u) (λ_ _=>0)
 case atStart=>exact⟨rfl,rfl⟩
 case round=>
  obtain⟨rfl,rfl⟩:=hrel;obtain⟨u,rfl⟩:=zx wr;go_wp2_with fail;have F:Qr B0 w u:=f.ch.below a6 q.1.1
  have O: ∀k,S.ext x k\/cL u S.dp k->B0<=k:=λk a=>by
   rcases a with a|a
   ·exact Nq q.1.1 (f.ge k (.inl a))
   ·rcases f.own k a with A|A
    ·exact a6 k A
    ·exact Nq q.1.1 A
  have r:=f.dsk;refine(nU (B:=B0) (q.1.step F) (Nq q.1.1 F.size) f.st f.sto f.ap (λk a=>O k (aM.fr_ext a)) (b7 S L r.2.2.1 r.2.2.2.1 r.2.2.2.2.1 r.2.2.2.2.2.1 r.2.2.2.2.2.2.1 r.2.2.2.2.2.2.2.2.2 f.keys f.recs) r.2.2.2.2.2.2.2.2.1 rfl).mono ?_;rintro y h ⟨rfl,P,H,Q,l2,E,R,T,A,U,W,s,j,a7⟩;obtain⟨g,v⟩:=zx ({S with gen:=S.gen+1,id:=(bm S (ob c L)).id,ps:=P,pm:=Q,bk:=l2,V:=H,c:=R,d:=dz S (ob c L),lg:=some (E,LV.new 2 16 (S.gen+1))}:aM);have JA:=λk (a:g.ext x k\/cL h g.dp k)=>rq (c:=0) (gen:=0) (id:=0) (t:=0) (l:=0) (V:=H) (d:=S.d) (S2:=g) (by rw[v];exact T) (by rw[v]) (by rw[v]) j a7 a
  have n:=zh (show bz u x [] 80 S h g by rw[v];exact T);have SV:=zh (show oT S (ob c L) g from⟨P,H,Q,l2,E,R,v,A,U,W⟩);have a8:=zh JA;obtain⟨c1,c2,c3,c4,c5,c6,c7,c8,c9,d0,d1,d2,a9,d3⟩:=n.at_.cells;have d4:=aa n.at_.blk;have X:=zh (show rl g.lg= .pointer (some ⟨E,0,none⟩) by rw[v];rfl);rw[X] at a9;clear F O r A U W s j v JA;go_wp2;go_ret2;have C:=zh n.at_;have Y:bJ h b (ob c L):=f.st.ch n.ch λk a e=>f.ap k a (aM.fr_ext e)
  obtain⟨I,J⟩:=zx (h.alloc (.cells (jC g++(([.pointer (some ⟨b.s,0,none⟩),.bool true]:List Qn)++ [])).toArray 82));have D:Qr h.heap.size h I:=by rw[J];exact ak _ _
  have b0:=C.below D;have b1:=n.ch.size;have Z:=f.ch.size;have a0: ∀k,g.ext x k\/cL h g.dp k->(S.ext x k\/cL u S.dp k)\/u.heap.size<=k:=a8
  have b2:bB I h.heap.size [] 82 g b (ob c L):=by
   refine⟨b0.copy (by rw[J];exact Nu _ _) (λk a o=>?_),Y.below D,λk a o=>?_⟩
   ·rcases a with a|a
    ·have:=C.lt a;omega
    ·have:=C.disk.own_lt ((C.own_below D k).1 a);omega
   ·have d5:=Y.lt a
    have s:g.ext x k\/cL h g.dp k:=by
     rcases o with o|o
     ·refine .inl ?_
      rcases o with o|o
      ·omega
      ·exact .inr o
     ·exact .inr ((C.own_below D k).1 o)
    rcases a0 k s with j|j
    ·exact f.ap k a j
    ·have:=f.st.lt a;omega
  have b3:I=h.alloc (.cells #[(90:Int),(2:Int),(18:Int),(28:Int),(10:Int),(38:Int),(26:Int),g.dp,.int .u64 g.gen,.int .u64 g.id,.map (some g.pm),g.bk,E,(g.bad:Int),b.s,true] 82):=by rw[J,<-X];rfl
  rw[<-b3];refine⟨h.heap.size,S,g,b,L,rfl,b2,SV,f.dsk,f.keys,f.recs,?_,λk a=>?_⟩
  ·have b4:Ch (cL w dp) w h:=⟨n.ch.os.trans f.ch.os,n.ch.tape.trans f.ch.tape,n.ch.output.trans f.ch.output,Nq Z b1,λk a a1=>(n.ch.block k (No a Z) λe=>by
    rcases aM.fr_ext e with K|K
    ·have:=f.ge k (.inl K);omega
    ·rcases f.own k K with a2|a2
     ·exact a1 a2
     ·omega).trans (f.ch.block k a a1)⟩
   exact b4.trans (Ch.fresh D)
  ·rcases a with a|a
   ·have s:(g.ext x k\/cL h g.dp k)\/k=h.heap.size:=by
     rcases a with a|a
     ·rcases a with a|a
      ·exact .inr a
      ·exact .inl (.inl (.inr a))
     ·exact .inl (.inr ((C.own_below D k).1 a))
    rcases s with s|s
    ·rcases a0 k s with j|j
     ·rcases j with j|j
      ·exact .inr (f.ge k (.inl j))
      ·exact f.own k j
     ·exact .inr zo
    ·exact .inr zo
   ·exact .inr (f.ge k (.inr a))
section
variable{P:Program}{κ α:Type}[DecidableEq κ]{K E T:Qp}{ek:κ->Qn}{ev:α->Qn}{w:Qm}{b:Nat}{l:List (κ×α)}{ops:Array Oper}{rest:List Oper}{o:Oper}{a:Act}{Q:Exit->Act->Qm->Prop}
def cB(g:o.guard=none)(m x v:Operand)(h:o.op=Op.insert T m x v)(i:bL P K ek ev w b l)(j:Maps.Keyed P K)(n: ∀x y:κ,ek x=ek y->x=y)(p:P.underlying T=some (.map K E)){k:κ}{q:Lit}(r:keyOf P K (ek k)=some q)(y:α)
 (s:a.eval m= .map (some b)) (t:a.eval x=ek k) (u:a.eval v=ev y) (A: ∀w',Qs (bL P K ek ev w' b (cn l k y))->Qs (Ch (·=b) w w')->wpList P ops Q rest (a.put o.dst undef) w'):wpList P ops Q (o::rest) a w:=by
 refine Pr g λB c=>?_
 obtain⟨w',d,e,f,_⟩:=i.put j n p r y;unfold Oper.wp;simp[execOp,h,s,t,u,d,Result.andThen];exact c _ _ (A w' (zh e) (zh f))
end
def ix:List (ByteArray×ByteArray):=(cn (cn (cn (cn (cn (cn (cn (cn (cn (cn (cn (cn ([]:List (ByteArray×ByteArray)) ⟨#[112,117,116]⟩ ⟨#[115]⟩) ⟨#[116,105,99,107]⟩ ⟨#[110]⟩) ⟨#[97,115,107]⟩ ⟨#[116,110,110]⟩) ⟨#[99,104,97,110,103,101]⟩ ⟨#[116]⟩) ⟨#[115,116,101,112]⟩ ⟨#[]⟩) ⟨#[97,98,111,114,116]⟩ ⟨#[]⟩) ⟨#[115,121,110,99]⟩ ⟨#[]⟩) ⟨#[109,111,118,101]⟩ ⟨#[110]⟩) ⟨#[97,114,109]⟩ ⟨#[110,107]⟩) ⟨#[99,117,116]⟩ ⟨#[107]⟩) ⟨#[108,111,111,107]⟩ ⟨#[]⟩) ⟨#[110,111,119]⟩ ⟨#[]⟩)
def oc(s:ByteArray)(L:s.size<=15)(w:Qm):Qo zP 233 #[s] w (aK w (.tuple #[.string ((bf ix s).getD ⟨#[]⟩),.bool (bf ix s).isSome])):=by
 have M:= @run_makeMap zP;have d:=bL.new zP 9 mB mB w;have N:=zh d;have O:=zh (mC L);have a:=zh (λ(t:ByteArray) (P:t.size<=15)=>mC P);clear d L;go_enter func233,ntmps233;go_wp2_with (refine cB rfl (.tmp 7) (.const (.string ⟨#[112,117,116]⟩)) (.const (.string ⟨#[115]⟩)) rfl N dB cT underlying373 (k:=⟨#[112,117,116]⟩) (a ⟨#[112,117,116]⟩ zd).choose_spec ⟨#[115]⟩ rfl rfl rfl ?_);intro T e f;go_wp2_with (refine cB rfl (.tmp 7) (.const (.string ⟨#[116,105,99,107]⟩)) (.const (.string ⟨#[110]⟩)) rfl e dB cT underlying373 (k:=⟨#[116,105,99,107]⟩) (a ⟨#[116,105,99,107]⟩ zd).choose_spec ⟨#[110]⟩ rfl rfl rfl ?_);intro U g h;go_wp2_with (refine cB rfl (.tmp 7) (.const (.string ⟨#[97,115,107]⟩)) (.const (.string ⟨#[116,110,110]⟩)) rfl g dB cT underlying373 (k:=⟨#[97,115,107]⟩) (a ⟨#[97,115,107]⟩ zd).choose_spec ⟨#[116,110,110]⟩ rfl rfl rfl ?_);intro V i j;go_wp2_with (refine cB rfl (.tmp 7) (.const (.string ⟨#[99,104,97,110,103,101]⟩)) (.const (.string ⟨#[116]⟩)) rfl i dB cT underlying373 (k:=⟨#[99,104,97,110,103,101]⟩) (a ⟨#[99,104,97,110,103,101]⟩ zd).choose_spec ⟨#[116]⟩ rfl rfl rfl ?_);intro W l m;go_wp2_with (refine cB rfl (.tmp 7) (.const (.string ⟨#[115,116,101,112]⟩)) (.const (.string ⟨#[]⟩)) rfl l dB cT underlying373 (k:=⟨#[115,116,101,112]⟩) (a ⟨#[115,116,101,112]⟩ zd).choose_spec ⟨#[]⟩ rfl rfl rfl ?_);intro X n o;go_wp2_with (refine cB rfl (.tmp 7) (.const (.string ⟨#[97,98,111,114,116]⟩)) (.const (.string ⟨#[]⟩)) rfl n dB cT underlying373 (k:=⟨#[97,98,111,114,116]⟩) (a ⟨#[97,98,111,114,116]⟩ zd).choose_spec ⟨#[]⟩ rfl rfl rfl ?_);intro Y p q;go_wp2_with (refine cB rfl (.tmp 7) (.const (.string ⟨#[115,121,110,99]⟩)) (.const (.string ⟨#[]⟩)) rfl p dB cT underlying373 (k:=⟨#[115,121,110,99]⟩) (a ⟨#[115,121,110,99]⟩ zd).choose_spec ⟨#[]⟩ rfl rfl rfl ?_);intro w7 r u;go_wp2_with (refine cB rfl (.tmp 7) (.const (.string ⟨#[109,111,118,101]⟩)) (.const (.string ⟨#[110]⟩)) rfl r dB cT underlying373 (k:=⟨#[109,111,118,101]⟩) (a ⟨#[109,111,118,101]⟩ zd).choose_spec ⟨#[110]⟩ rfl rfl rfl ?_);intro Z v x;go_wp2_with (refine cB rfl (.tmp 7) (.const (.string ⟨#[97,114,109]⟩)) (.const (.string ⟨#[110,107]⟩)) rfl v dB cT underlying373 (k:=⟨#[97,114,109]⟩) (a ⟨#[97,114,109]⟩ zd).choose_spec ⟨#[110,107]⟩ rfl rfl rfl ?_);intro a0 y A;go_wp2_with (refine cB rfl (.tmp 7) (.const (.string ⟨#[99,117,116]⟩)) (.const (.string ⟨#[107]⟩)) rfl y dB cT underlying373 (k:=⟨#[99,117,116]⟩) (a ⟨#[99,117,116]⟩ zd).choose_spec ⟨#[107]⟩ rfl rfl rfl ?_);intro a1 C D;go_wp2_with (refine cB rfl (.tmp 7) (.const (.string ⟨#[108,111,111,107]⟩)) (.const (.string ⟨#[]⟩)) rfl C dB cT underlying373 (k:=⟨#[108,111,111,107]⟩) (a ⟨#[108,111,111,107]⟩ zd).choose_spec ⟨#[]⟩ rfl rfl rfl ?_);intro a2 E F;go_wp2_with (refine cB rfl (.tmp 7) (.const (.string ⟨#[110,111,119]⟩)) (.const (.string ⟨#[]⟩)) rfl E dB cT underlying373 (k:=⟨#[110,111,119]⟩) (a ⟨#[110,111,119]⟩ zd).choose_spec ⟨#[]⟩ rfl rfl rfl ?_);intro c H I;have J:Ch (·=w.heap.size) (w.alloc (.map #[] 0)) c:=((((((((((f.trans h).trans j).trans m).trans o).trans q).trans u).trans x).trans A).trans D).trans F).trans I;have Q:=zh (show Qr w.heap.size w c from(ak w (.map #[] 0)).trans (J.below (B:=w.heap.size) (λk K=>by have K:k=w.heap.size:=K;omega) zm));have R:=zh (show bL zP 9 mB mB c w.heap.size ix from H);clear J f h j m o q u x A D F I e g i l n p r v y C E H M
 have S:=zh (show hC (.string ByteArray.empty) mB true (bf ix s)= .tuple #[.string ((bf ix s).getD ⟨#[]⟩),.bool (bf ix s).isSome] by
  cases bf ix s<;>rfl)
 go_wp2_with (refine lZ rfl (.tmp 8) (.tmp 9) true rfl R dB cT underlying373 (z:= .string ByteArray.empty) rfl O.choose_spec rfl rfl ?_;rw[S]);go_ret2;exact⟨rfl,Q⟩
section
variable{w w' w1:Qm}{e q t c':Nat}{r rest:List Qn}{T:Qp}{S S' S1 S2:aM}{b b' b1:SB}{σ σ' σ1:au}
def GR(H:Qs (bB w e r T S b σ))(y:σ.ok)(A:aQ σ.τ.r.now)(n:ByteArray)(B:bn n=true)(C:n.size<=1000000)(f g:Int)(D:0<=f/\f<=g)(E:g<=9223372036854775807)(a:Nat)(F:σ.τ.r.cover f=a)(I:a<σ.τ.tabs.length)(J: ∀r∈σ.τ.tabs.getD a none,r.name=n/\f<=r.start/\r.start<g):
 Qo zP 165 #[e,n,f,g] w (qM w a (σ.τ.tabs.getD a none).toList):=by
 have m:Qs (∀w1,Qr w.heap.size w w1->Qo zP 237 #[b.s,n,f,g] w1 (qM w1 a (σ.τ.tabs.getD a none).toList)):=λw1 K=>FL (H.below K).st y A n B C f g D E a F I J
 obtain⟨h,p⟩:=zx (σ.τ.tabs.getD a none);rw[<-p] at m⊢;clear y A B J F C E D I p;obtain⟨c0,L⟩:=H.ecells;have M:=aa H.sto.blk;go_enter func165,ntmps165;go_wp2_with fail;refine(m _ ze).mono ?_;rintro V N ⟨u,rfl,c,i,q⟩;have O:=zh (ui c i);obtain⟨s,t⟩:=bl q;have d:=zh s;have P:=zh t;have Q:=zh c;have x:w.heap.size<(w.alloc (.cells #[(),z0] 247)).heap.size:=aa (ag rfl);have R:=i.mono (Oc (aa (ag rfl)));obtain⟨j,l,rfl,-⟩:=id c;clear c q i s t c0 L M;obtain⟨z0,z1⟩:=bE d;have W:=ad (o:=0) d;have X:=ad (o:=1) d;go_wp2_with fail
 have U:((N.setCell ⟨w.heap.size,0,none⟩ (.int .i64 a)).setCell ⟨w.heap.size,1,none⟩ (.slice j h.toList.length l)).heap[w.heap.size]?=some (.cells #[(a:Int),.slice j h.toList.length l] 247):=by
  rw[al (al d _) _];rfl
 refine NG (v:= .tuple #[.agg #[(a:Int),.slice j h.toList.length l],()]) (aJ results165 _ _ _ _ _ _ _ _ rfl rfl U underlying247 rfl zk) rfl ⟨_,rfl,?_,?_,ao (ao P zl) zl⟩
 ·exact ms Q O zm λk Y _=>(af _ (by show k≠w.heap.size;have:=x;omega)).trans (af _ (by show k≠w.heap.size;have:=x;omega))
 ·exact R
end
section
variable{w w' w1:Qm}{e q t c':Nat}{r rest rest':List Qn}{T:Qp}{S S' S1 S2:aM}{b b' b1:SB}{σ σ' σ1:au}{n:Int}
def Ch.trans_{F G:Nat->Prop}{u v x:Qm}(a:Ch F u v)(k:Ch G v x)(f: ∀j,G j->F j\/u.heap.size<=j):Ch F u x:=
 ⟨k.os.trans a.os,k.tape.trans a.tape,k.output.trans a.output,Nq a.size k.size,λi c d=>(k.block i (No c a.size) λe=>(f i e).elim d λe=>zo).trans (a.block i c d)⟩
def bD.setr{i:Nat}{y:Qn}(c:bD w q rest T S)(m:((jC S++rest).set i y)=jC S++rest'):bD (w.setCell ⟨q,i,none⟩ y) q rest' T S/\(∀k,S.fr (w.setCell ⟨q,i,none⟩ y) q k->S.fr w q k)/\Ch (S.fr w q) w (w.setCell ⟨q,i,none⟩ y):=by
 have d:Ch (·=q) w (w.setCell ⟨q,i,none⟩ y):=aP (Ch.refl _ _) (.inl rfl);obtain⟨l,h⟩:=c.disk.ch_ c.keep d (λk a e=>c.nd k (.inl e) a);have g: ∀k,k≠q->(w.setCell ⟨q,i,none⟩ y).heap[k]?=w.heap[k]?:=λk a=>af _ a
 refine⟨⟨by rw[al c.blk,NN,m],l,c.keep,c.led.step λk a=>g k (c.nq k (.inl a)),c.mp.step (g _ (c.nq _ (.inr (.inl (.inl rfl))))),λp f=>⟨(c.rows p f).1.ch d λk a=>c.nq k (.inr (.inl (.inr ⟨p,f,.inl a⟩))),(c.rows p f).2.ch_ d λk a=>c.nq k (.inr (.inl (.inr ⟨p,f,.inr a⟩)))⟩,
  λx j=>(g x.1 (c.nq _ (.inr (.inr ⟨x,j,rfl⟩)))).trans (c.log x j),λk a e=>c.nd k a ((h k).1 e),c.nq,c.nl,c.ng⟩,λk a=>?_,d.mono λk _ a=> .inl a⟩
 rcases a with a|a|a
 ·exact .inl a
 ·exact .inr (.inl ((h k).1 a))
 ·exact .inr (.inr a)
def Bm(w:Qm)(e:Nat)(r:List Qn)(T:Qp)(S:aM)(b:SB)(x:Qq)(w':Qm):Prop:=
 x= .returned (.int .i64 14)/\ ∃S',Qs (bD w' e ([.pointer (some ⟨b.s,0,none⟩),.bool false]++r) T S')/\Qs (∀k,S'.fr w' e k->S.fr w e k\/w.heap.size<=k)/\Qs (Ch (S.fr w e) w w')/\S'.d=S.d/\S'.dp=S.dp/\S'.B=S.B/\S'.c<=S.c+31
def DB(a:bD w e ([.pointer (some ⟨b.s,0,none⟩),.bool true]++r) T S):Qo zP 72 #[e,(14:Int)] w (λx w'=>x= .returned (.int .i64 14)/\w'=w.setCell ⟨e,15,none⟩ (.bool false)):=by
 have c:=aa a.blk;have d:=λo=>ad (o:=o) a.blk
 have f:w.cell? ⟨e,15,none⟩=some (.bool true):=by rw[NA w e _ _ _ _ a.blk];rfl
 clear a;go_enter func72,ntmps72;go_wp2_with fail;go_ret;exact⟨rfl,rfl⟩
def DC{B:Nat}(q:Qs (cl B w))(H:Qs (bB w e r T S b σ))(A:Qs (∀k,EF w e S b k->B<=k))(C:Qs (ij S σ n))(D:Qs (S.d.on=false))(E:Qs (S.bad=0))(F:Qs (σ.room=26)):
 Qo zP 69 #[e] w (Bm w e r T S b):=by
 obtain⟨c0,s⟩:=H.ecells;have t:=aa H.sto.blk;clear s;go_enter func69,ntmps69;go_wp2_with fail;have a:=zh (show Qr w.heap.size w w.drew from zr.drew);have g:=H.below a;have h:=Dg (q.fresh a) (q.fresh a).1 g.st g.sto g.ap (λk c=>A k (.inl (aM.fr_ext (H.sto.fr_below a c)))) C D E F;have u:=zh h;clear h;go_region_with (first|(refine u.mono ?_;rintro x I ⟨rfl,v,j,l,m,o,p⟩;have d:=zh ((bz.refl H.sto a).trans j);have f:=zh (And.intro l (And.intro m (And.intro o p)));clear j l m o p)|(refine(DB d.at_).mono ?_;rintro x J ⟨rfl,rfl⟩;have E2:=zh (d.at_.setr (i:=15) (y:= .bool false) (rest':= [.pointer (some ⟨b.s,0,none⟩),.bool false]++r) rfl)));clear c0 t;go_wp2;go_ret;refine⟨rfl,v,E2.1,λk c=>d.own k (E2.2.1 k c),?_,f.1,f.2.1,f.2.2.1,f.2.2.2⟩;exact d.ch.trans_ E2.2.2 λk c=>d.own k c
def DD{B:Nat}(p:cl B w)(H:Qs (bB w e r T S b σ))(q: ∀k,EF w e S b k->B<=k)(s:ij S σ n)(t:S.d.on=false)(u:S.bad=0)(v:σ.room=26):
 Qo zP 36 #[e] w (Bm w e r T S b):=by
 have o:=λw1 (m:Qr w.heap.size w w1)=>DC (p.fresh m) (H.below m) (λk a=>q k (H.ef_below m a)) s t u v
 have y:=zh o;clear p q s t u v o;go_enter func36,ntmps36;go_wp2_with fail;refine zb (jn H) λw1 c=>?_
 go_wp2_with fail;refine(y _ c).mono ?_;rintro x D ⟨rfl,A,d,f,g,h,i,j,l⟩;have C:=zh (And.intro d (And.intro f (And.intro g (And.intro h (And.intro i (And.intro j l))))));clear d f g h i j l;go_wp2_with fail;go_ret;obtain⟨d,f,g,h,i,j,l⟩:=C.out;refine⟨rfl,A,d,λk a=>(f k a).imp (H.sto.fr_below c) λe=>Nq c.size e,?_,h,i,j,l⟩;exact(Ch.fresh c).trans (g.mono λk _ a=>H.sto.fr_below c a)
end
def iy(s t:ByteArray)(n:Int)(d:s.size<=15)(e:bf ix s=some t)(i:Lib.hasSuffix t.data.toList [107]=false)(k:(t.toList== [115])=false)(l:n=t.size)(m:t.size<=10)(w:Qm):
 Qo zP 160 #[s,n] w (aK w (.tuple #[t,true])):=by
 have a:=oc s d w;rw[e] at a;have f:=zh a;clear a e d;go_enter func160,ntmps160;go_wp2_with fail;refine f.mono ?_;rintro x g ⟨rfl,c⟩;have h:=zh c;clear c;dsimp only[Option.getD_some,Option.isSome_some];go_wp2_with fail;refine(strings_CutSuffix t ⟨#[107]⟩ g zo).mono ?_;rintro x j ⟨rfl,rfl⟩;rw[show(⟨#[107]⟩:ByteArray).data.toList= [107] from rfl,i];go_wp2_with fail;go_ret2;exact⟨rfl,h⟩
def oU(w:Qm):Qo zP 160 #[.string ⟨#[112,117,116]⟩,(3:Int)] w (aK w (.tuple #[.string ⟨#[116,110,110]⟩,true])):=by
 have a:=oc ⟨#[112,117,116]⟩ zd w;rw[(zk:bf ix ⟨#[112,117,116]⟩=some ⟨#[115]⟩)] at a;have d:=zh a;clear a;go_enter func160,ntmps160;go_wp2_with fail;refine d.mono ?_;rintro x e ⟨rfl,c⟩;have f:=zh c;clear c;dsimp only[Option.getD_some,Option.isSome_some];go_wp2_with fail;refine(strings_CutSuffix ⟨#[115]⟩ ⟨#[107]⟩ e zd).mono ?_;rintro x g ⟨rfl,rfl⟩;rw[(zk:Lib.hasSuffix (⟨#[115]⟩:ByteArray).data.toList (⟨#[107]⟩:ByteArray).data.toList=false)];go_wp2_with fail;refine(strings_Repeat_one ⟨#[116,110,110]⟩ _).mono ?_;rintro x h ⟨rfl,rfl⟩;go_wp2_with fail;go_ret2;exact⟨rfl,f⟩
def oV(w:Qm):Qo zP 160 #[.string ⟨#[99,117,116]⟩,()] w (aK w (.tuple #[.string ⟨#[]⟩,true])):=by
 have a:=oc ⟨#[99,117,116]⟩ zd w;rw[(zk:bf ix ⟨#[99,117,116]⟩=some ⟨#[107]⟩)] at a;have d:=zh a;clear a;go_enter func160,ntmps160;go_wp2_with fail;refine d.mono ?_;rintro x e ⟨rfl,c⟩;have f:=zh c;clear c;dsimp only[Option.getD_some,Option.isSome_some];go_wp2_with fail;refine(strings_CutSuffix ⟨#[107]⟩ ⟨#[107]⟩ e zd).mono ?_;rintro x g ⟨rfl,rfl⟩;rw[(zk:Lib.hasSuffix (⟨#[107]⟩:ByteArray).data.toList (⟨#[107]⟩:ByteArray).data.toList=true),(zk:(⟨(Lib.trimSuffix (⟨#[107]⟩:ByteArray).data.toList (⟨#[107]⟩:ByteArray).data.toList).toArray⟩:ByteArray)=⟨#[]⟩)];go_wp2_with fail;refine(strings_Repeat_zero ⟨#[110]⟩ _).mono ?_;rintro x h ⟨rfl,rfl⟩;go_wp2_with fail;go_ret2;exact⟨rfl,f⟩
def jq(s:ByteArray):ByteArray:=⟨(Lib.replaceAll s.data.toList [47] [10]).toArray⟩
def splitB(s:ByteArray):ByteArray:=⟨(Lib.replaceAll (jq s).data.toList [44] [32]).toArray⟩
def GT(s:ByteArray):ByteArray:=splitB s++⟨#[10]⟩
def zX{w:Qm}{m:Int}(s:ByteArray)(n:(s.toList== [])=false)(o:s.size<=1000)(p:(jq s).size<=1000)(q:(splitB s).size<=1000)(h:Lib.countB s ⟨#[47]⟩<=1000)(i:Lib.countB (jq s) ⟨#[44]⟩<=1000)(j:w.cell? ⟨0,0,none⟩=some (.int .i64 m)):
 Qo zP 54 #[s] w (aK w (.string (GT s))):=by
 have a:=zh j;have c:=zh (And.intro h i);go_enter func54,ntmps54;go_wp2_with fail;refine(strings_ReplaceAll s ⟨#[47]⟩ ⟨#[10]⟩ m w zo a zd (by have:=c.1;show s.size+_*1<=_;omega)).mono ?_;rintro x e ⟨rfl,f⟩;have d:=zh f;rw[show(⟨(Lib.replaceAll s.data.toList (⟨#[47]⟩:ByteArray).data.toList (⟨#[10]⟩:ByteArray).data.toList).toArray⟩:ByteArray)=jq s from rfl];go_wp2_with fail;refine(strings_ReplaceAll (jq s) ⟨#[44]⟩ ⟨#[32]⟩ m e zo ((d.cell (Nv _ _ a)).trans a) zd (by have:=c.2;show(jq s).size+_*1<=_;omega)).mono ?_;rintro x k ⟨rfl,g⟩;have B2:=zh g;rw[show(⟨(Lib.replaceAll (jq s).data.toList (⟨#[44]⟩:ByteArray).data.toList (⟨#[32]⟩:ByteArray).data.toList).toArray⟩:ByteArray)=splitB s from rfl];have l:(splitB s).size+1<=9223372036854775807:=zo;go_wp2_with fail;go_ret;exact⟨rfl,ai d B2⟩
def dN(l:List Int):ByteArray:=⟨(Lib.join ((l.map gF).map (·.data.toList)) [32]).toArray⟩
def fc{w:Qm}{B:Nat}{v:Qn}{l:List Int}(c7:Qs (cl B w))(a6:aE w v l)(c8:l.length<=10)(c9:0<l.length)(d0:Qs ((Lib.join ((l.map gF).map (·.data.toList)) [32]).length<=100000)):Qo zP 97 #[v] w (aK w (.string (dN l))):=by
 have d1:=zh a6;obtain⟨a,d2,rfl,R,a7,S⟩:=a6;have a8:=zh R;have a9:=zh S;obtain⟨r,d⟩:=zy (l.length:Nat);rw[<-d] at c8 c9;clear R a7 S;rw[<-d];obtain⟨b0,b1,b2,b3,b4⟩:=info_parts kH;go_enter func97,ntmps97;go_wp2_with fail;go_loopw [3,8] (λu i wr=> ∃(k:Nat),k<=r/\i= .int .i64 k/\Qs (wr.ownsRow w.heap.size 9 1 u k (((l.take k).map gF).flatMap hU))/\Qs (Qr w.heap.size w wr)) (λ_ i _=>r-(intOf i).toNat)
 case atStart=>exact⟨0,Nx _,rfl,zh zw,zh zr⟩
 case round=>
  obtain⟨k,d3,rfl,D,f⟩:=hrel;obtain⟨va,vc,rfl⟩:=az D;by_cases s:k<r
  ·obtain⟨b,o,rfl,E,T⟩:=a9 (by intro F;have:=d.out;simp[F] at this;omega)
   have c0:=(f.cell (p:=⟨b,o+k,none⟩) E).trans (T k (by have:=d.out;omega));have U:k<l.length:=by rw[<-d];exact s
   obtain⟨h,H⟩:=zy (l.getD k 0);have I:h∈l:=by rw[H,Nr,Np U];exact NT _
   have V:aQ h:=a8 h I;rw[<-H] at c0;have b5:=zh (And.intro I V);have d4:=No E f.size;clear T I V U;go_wp2_with fail;refine zb (hD (B:=B) h _ (c7.fresh f) b5.2) λb6 W=>?_
   obtain⟨J,X⟩:=zy (gF h);rw[<-X];have K:=aS D W;have L:=f.trans (W.mono f.size);clear c0 E;go_wp2_with (at_builtin;refine bb (enc:=hU) rfl _ _ 121 rfl w.heap.size 9 b0 _ 16 underlying121 b1 b2 b3 b4 rfl zd _ _ k _ [J] rfl (aZ K λg b7=>ze.block g (ar K b7).2.1) rfl (bC 1 (c:=1) (l:= [J]) (ag zm) rfl ⟨Nt 1,zd⟩) (λ_=>rfl) ?qc1 (by show(k+1)*16<140737488355328;omega) zd ?qc3 ?_)
   case qc1=>intro x M y Y;obtain rfl:=Nz.1 M;simp only[hU,NL,NJ,Ou] at Y;subst Y;rfl
   case qc3=>have:=L.size;simp;omega
   intro d5 Z N n b8
   have b9:=zh (show Qr w.heap.size w Z by
    have q:=aI L (ak b6 (.cells #[J] 9)) L.size;exact q.trans ⟨n.os,n.tape,n.output,n.size,λj c1=>n.block j (No c1 q.size) λe=>by have:=(ar K (g:=j) e.symm).1;omega⟩)
   have c2:=zh N;obtain⟨d6,d7,rfl⟩:=az N;clear N n b8;go_wp2_with fail;go_roundw
   case rel=>
    refine⟨k+1,zo,by go_num,?_,b9⟩;have m:=c2.out;refine zh ?_;rw[NE (by rw[<-d];exact s),NU,NK];have e:l[k]'(by rw[<-d];exact s)=h:=by rw[H,Nr,Np];rfl
    rw[e];show Z.ownsRow w.heap.size 9 1 _ (k+1) (_++List.flatMap hU [gF h]);rw[<-X,List.map_take];exact m
   case measure=>simp[intOf];omega
  ·obtain rfl:k=r:=zo
   clear s;have m:=D.out;rw[d,OA] at m;obtain⟨t,A⟩:=zy (l.map gF);have O:t.length=l.length:=by rw[A,OC]
   rw[<-A,<-O] at m;obtain⟨d8,c',e,q,a0⟩:=(aB.own m).1;have C:k=t.length:=by rw[O];exact d
   have a1:=(aB.own m).1;obtain⟨a2,go,rfl,a3,-⟩:=a0 (λF=>by rw[F] at C;simp at C;omega);injection e with P Q c3
   subst P c3
   have a4: ∀(j:Nat) x,t[j]?=some x->wr.cell? ⟨a2,go+j,none⟩=some (.string x):=λj x M=>by
    obtain⟨d9,o',e,-,c4⟩:=a1.elem (λ_=>rfl) M;injection e with e;injection e with P Q;subst P Q
    have:=c4 0 _ rfl;rw[Nat.mul_one,NR] at this;exact this
   have c5:=zh (strings_Join a2 go vc t ⟨#[32]⟩ wr a4 a3 (by have:=d.out;omega) q.1 (by rw[A];have:=d0.out;exact Nq this zd));rw[C];clear a1 q a0 m a4 a3 C O Q;go_wp2_with fail;refine c5.mono ?_;rintro x e0 ⟨rfl,a5⟩;have c6:=f.trans (a5.mono f.size);clear a5;go_wp2_with fail;go_ret;exact⟨by rw[A];rfl,c6⟩
def zY(s:ByteArray)(a:(s.toList== [])=false)(w:Qm):Qo zP 156 #[s] w (aK w (.bool false)):=by
 go_enter func156,ntmps156;go_wp2_with fail;go_ret;exact⟨rfl,ND _ _⟩
def GU{w:Qm}{v:Qn}{l:List ByteArray}(D:bq w v l)(E:l.length<=1000)(F:Qs (∀s∈l,(s.toList== [])=false)):Qo zP 229 #[v,.func (.func 156) #[] #[]] w (aK w (.int .i64 (-1))):=by
 obtain⟨a,H,rfl,t,u,j⟩:=D;have x:=zh j;obtain⟨e,c⟩:=zy (l.length:Nat);rw[<-c] at E;clear t u j;rw[<-c];go_enter func229,ntmps229;go_wp2_with fail;go_loopw [8] (λi wr=> ∃(k:Nat),k<=e/\i= .int .i64 k/\Qs (Qr w.heap.size w wr)) (λi _=>e-(intOf i).toNat)
 case atStart=>exact⟨0,Nx _,rfl,zh zr⟩
 case round=>
  obtain⟨k,I,rfl,d⟩:=hrel;by_cases m:k<e
  ·obtain⟨b,o,rfl,f,n⟩:=x (by intro y;have:=c.out;simp[y] at this;omega)
   have c0:=(d.cell (p:=⟨b,o+k,none⟩) f).trans (n k (by have:=c.out;omega));have q:k<l.length:=by rw[<-c];exact m
   obtain⟨g,h⟩:=zx (l.getD k ByteArray.empty);have r:g∈l:=by rw[h,Nr,Np q];exact NT _
   rw[<-h] at c0;have A:=zh (F g r);have J:=No f d.size;clear n h r q;go_wp2_with fail;refine zb (zY g A _) λK B=>?_
   have C:=d.trans (B.mono d.size);clear c0 f;go_wp2_with fail;go_roundw
   case rel=>exact⟨k+1,zo,by go_num,C⟩
   case measure=>simp[intOf];omega
  ·obtain rfl:k=e:=zo
   clear m;go_wp2_with fail;go_ret;exact⟨rfl,d⟩
def GV{w:Qm}{v:Qn}{l:List ByteArray}(a:bq w v l)(c:l.length<=1000)(d: ∀s∈l,(s.toList== [])=false):Qo zP 155 #[v,.func (.func 156) #[] #[]] w (aK w v):=by
 have H:=zh (GU a c d);clear a c d;go_enter func155,ntmps155;go_wp2_with fail;refine H.mono ?_;rintro x g ⟨rfl,e⟩;have f:=zh e;go_wp2_with fail;go_ret;exact⟨rfl,f⟩
def rG{w:Qm}{m:Int}(s:ByteArray)(q:s.size<=990)(k:Qs (Lib.hasPrefix s.data.toList [35]=false))(l:w.cell? ⟨0,0,none⟩=some (.int .i64 m))(n:Qs (∀x∈bU s ⟨#[32]⟩,(x.toList== [])=false)):
 Qo zP 95 #[s] w (ER w (bU s ⟨#[32]⟩)):=by
 have g:=zh l;have h:=zh (lp s ⟨#[32]⟩ zd);go_enter func95,ntmps95;go_wp2_with fail;refine(strings_HasPrefix s ⟨#[35]⟩ w).mono ?_;rintro x i ⟨rfl,rfl⟩;rw[show(⟨#[35]⟩:ByteArray).data.toList= [35] from rfl,k];go_wp2_with fail;refine(nk s ⟨#[32]⟩ m i zo zd g).mono ?_;rintro x o ⟨b,c,rfl,a,d,j⟩;have e:=zh (And.intro a j);clear a;go_wp2_with fail;refine zb (GV d (by have:=h.2.1;omega) n) λp f=>?_
 go_wp2_with fail;go_ret;exact⟨b,c,rfl,e.1,d.below f,ai e.2 f⟩
structure cK where
 word:ByteArray
 nums:List Int
 text:List ByteArray
def cg(w:Qm)(v:Qn)(s:cK):Prop:= ∃a c,v= .agg #[s.word,a,c]/\aE w a s.nums/\bq w c s.text
def cg.below{w w':Qm}{v:Qn}{s:cK}(g:cg w v s)(a:Qr w.heap.size w w'):cg w' v s:=by
 obtain⟨c,d,rfl,e,f⟩:=g;exact⟨c,d,rfl,e.below a,f.below a⟩
structure cK.fine(s:cK)(l:ByteArray):Prop where
 let_: ∀w,Qo zP 160 #[.string s.word,.int .i64 ((s.nums.length:Int)+s.text.length)] w (aK w (.tuple #[.string l,.bool true]))
 cnt:Lib.countByte l.data.toList 116=s.text.length
 n:s.nums.length<=100/\s.text.length<=100
 ok: ∀t∈s.text,(t.toList== [])=false/\Lib.containsAny t.data.toList [32,10]=false/\t.size<=1000/\ ∀(j:Nat) b,t.data.toList[j]?=some b->b.toNat<128
def ga{w:Qm}{v:Qn}{s:cK}{l:ByteArray}(a8:cg w v s)(n:Qs (s.fine l)):Qo zP 101 #[v] w (aK w (.tuple #[l,true])):=by
 have F:=zh n.let_;obtain⟨a9,X,m⟩:=s;obtain⟨b0,b1,rfl,Y,H⟩:=a8;have b2:=zh H;obtain⟨b3,b4,rfl,-⟩:=Y;obtain⟨b5,b6,rfl,-,-,I⟩:=H;dsimp only at*;have Z:=zh I;obtain⟨d,f⟩:=zy (m.length:Nat);obtain⟨a0,q⟩:=zx (X.length:Nat);have a1:a0<=100/\d<=100:=by rw[f,q];exact n.n
 rw[<-f,<-q] at F⊢;obtain⟨b7,b8⟩:=a1;clear I q;go_enter func101,ntmps101;go_wp2_with fail;refine(F _).mono ?_;rintro x a2 ⟨rfl,J⟩;obtain⟨g,K⟩:=bl J;have L:=zh g;have a3:=zh K;obtain⟨b9,a4⟩:=zy w.heap.size;rw[<-a4] at g L⊢;obtain⟨c0,r,t⟩:=aW g;have y:=aa g;clear J g K;have A:=n.cnt;dsimp only at A;have a5:=zh (show∀u,Qo zP 152 #[l,.string ⟨#[116]⟩] u (aK u (.int .i64 d)) from λu=>(strings_Count_one l 116 u).mono λe w' c=>⟨by rw[c.1,A,<-f],by rw[c.2];exact ND _ _⟩);clear A;go_wp2_with fail;refine aC (S:=(iz a2)) 10 zk ?_ (λa=>?_)
 ·(first|exact ax _|exact aj _ _ a M|exact aj _ _ a ze|exact a)
 refine zT 0 ?_;refine zT 1 ?_;refine zT 2 ?_;refine zT 3 ?_;refine zT 5 ?_;refine zT 6 ?_;refine zT 7 ?_;refine zO 4 λc1 a6=>?_
 go_simp;refine(a5 _).mono ?_;rintro x c2 ⟨rfl,M⟩;refine zE a6 (by first|exact ax _|exact aj _ _ a M|exact aj _ _ a ze|exact a) λa=>?_
 refine zT 8 ?_;refine zT 9 ?_;refine zH ?_;have N:=zh (ab L a.1);have B2:=ai a3 a.1;clear c0 r t y a;obtain⟨c0,r,t⟩:=aW N;have y:=aa N;go_wp2_with fail;clear c0 r t y;go_loopw [34] (λi wr=> ∃(k:Nat),k<=d/\i= .int .i64 k/\Qs (Qr w.heap.size w wr)) (λi _=>d-(intOf i).toNat)
 case atStart=>exact⟨0,Nx _,rfl,B2⟩
 case round=>
  obtain⟨k,c3,rfl,h⟩:=hrel;by_cases O:k<d
  ·obtain⟨b,o,rfl,B,P⟩:=Z (by intro c;have:=f.out;simp[c] at this;omega)
   have c0:=(h.cell (p:=⟨b,o+k,none⟩) B).trans (P k (by have:=f.out;omega));have Q:k<m.length:=by rw[<-f];exact O
   obtain⟨C,D⟩:=zx (m.getD k ByteArray.empty);have R:C∈m:=by rw[D,Nr,Np Q];exact NT _
   rw[<-D] at c0;obtain⟨c4,T,U,V⟩:=n.ok C R;have E:=zh (And.intro T (And.intro U V));have c5:=No B h.size;clear P D R Q T U V;go_wp2_with fail
   refine(strings_ContainsAny_laid C ⟨#[32,10]⟩ _ (by have:=E.2.1;omega) zd E.2.2 (λj b c=>by
    match j with
    |0=>obtain rfl:(32:UInt8)=b:=by simpa using c
        decide
    |1=>obtain rfl:(10:UInt8)=b:=by simpa using c
        decide
    |j+2=>simp at c)).mono ?_
   rintro x c6 ⟨rfl,W⟩;rw[show(⟨#[32,10]⟩:ByteArray).data.toList= [32,10] from rfl,E.1];have a7:=h.trans (W.mono h.size);clear W c0 B;go_wp2_with fail;go_roundw
   case rel=>exact⟨k+1,zo,by go_num,a7⟩
   case measure=>simp[intOf];omega
  ·obtain rfl:k=d:=zo
   clear O;go_wp2_with fail;go_ret2;exact⟨rfl,h⟩
def od{w:Qm}{b c:Nat}{n:Nat}{l:List ByteArray}{x:ByteArray}{k:Nat}(a:bq w (.slice (some ⟨b,0,none⟩) n c) l)(g:l[k]?=some x):w.cell? ⟨b,k,none⟩=some (.string x)/\b<w.heap.size:=by
 obtain⟨o,c',e,p,q,h⟩:=a
 have f:k<l.length:=by
  rcases Qa k l.length with a|a
  ·exact a
  ·rw[OW a] at g;cases g
 obtain⟨r,o',rfl,i,j⟩:=h (by intro a;rw[a] at f;simp at f);injection e with d s t
 injection d with d
 injection d with d m
 subst d m;have:=j k f;rw[Ok,Nr,g] at this;exact⟨this,i⟩
def zZ{w:Qm}{m:Int}{v:Qn}{s n p:ByteArray}{r:List ByteArray}(t:w.cell? ⟨0,0,none⟩=some (.int .i64 m))(P:bq w v (s::r))(Y:r.length<=1000)(u:s.size<=990)(y:Lib.hasPrefix s.data.toList [35]=false)(Q:Qs (bU s ⟨#[32]⟩= [⟨#[115,116,111,114,101]⟩,n,p]))(A: ∀x∈bU s ⟨#[32]⟩,(x.toList== [])=false)(B:eG n=true):
 Qo zP 49 #[v] w (aK w (.tuple #[(iq n:Int),p,(1:Int)])):=by
 have C:=zh (rG s u y t A);have D:=zh B;obtain⟨a,R,rfl,E,F,g⟩:=P;obtain⟨b,o,rfl,H,h⟩:=g zm;have c0:w.cell? ⟨b,o,none⟩=some (.string s):=h 0 zm;obtain⟨j,d⟩:=zx ((s::r).length:Nat);have I:0<j/\j<=1001:=by rw[d];simp;omega
 rw[<-d];obtain⟨S,T⟩:=I;clear E F g h d B A y u t;go_enter func49,ntmps49;go_wp2_with fail;go_loopw [12] (λi wr=>i= .int .i64 0/\wr=w) (λi _=>0)
 case atStart=>exact⟨rfl,rfl⟩
 case round=>
  obtain⟨rfl,rfl⟩:=hrel;go_wp2_with fail;refine C.mono ?_;rw[Q];rintro x J ⟨K,U,rfl,L,c,l⟩;have B2:=zh l;obtain⟨M,e⟩:=od (k:=0) c rfl;have N:=(od (k:=1) c rfl).1;have q:=(od (k:=2) c rfl).1;simp only[NW,OM,Ok,Nat.reduceAdd];go_wp2_with fail;refine zb (jd n J D) λV f=>?_
  have O:=ai B2 f;have W:=(f.cell (p:=⟨K,2,none⟩) e).trans q;have X:=No e f.size;clear M N q l L c e c0 H;go_wp2_with fail;go_region
  all_goals
   go_wp2_with fail;refine NG (results_tmp3 rfl _ _ _) rfl ?_;exact⟨rfl,O.drew⟩
def Jn(w:Qm)(nm:ByteArray)(l:List ah)(x:Qq)(w':Qm):Prop:=
 ∃(q dp:Nat) (S:aM) (b:SB),x= .returned (.tuple #[q,()])/\bB w' q [.pointer (some ⟨dp,0,none⟩)] 195 S b (ik nm l)/\S.dp=dp/\(∀k,EF w' q S b k->w.heap.size<=k)/\Qr w.heap.size w w'/\ ∃B,KW dp B 0 (DV.fresh 90) (ik nm l) S
def bB.copy{w w':Qm}{e:Nat}{r r':List Qn}{T T':Qp}{S:aM}{b:SB}{σ:au}(c:bB w e r T S b σ)(i:w'=w.alloc (.cells (jC S++(([.pointer (some ⟨b.s,0,none⟩),.bool true]:List Qn)++r')).toArray T')):
 bB w' w.heap.size r' T' S b σ/\(∀k,EF w' w.heap.size S b k->EF w e S b k\/k=w.heap.size)/\Qr w.heap.size w w':=by
 have d:Qr w.heap.size w w':=by rw[i];exact ak _ _
 have g: ∀k,S.ext w.heap.size k\/cL w' S.dp k->(S.ext e k\/cL w S.dp k)\/k=w.heap.size:=λk a=>by
  rcases a with a|a
  ·rcases a with a|a
   ·exact .inr a
   ·exact .inl (.inl (.inr a))
  ·exact .inl (.inr ((c.sto.own_below d k).1 a))
 refine⟨⟨(c.sto.below d).copy (by rw[i];exact Nu _ _) (λk a h=>?_),c.st.below d,λk a h=>?_⟩,λk a=>?_,d⟩
 ·have f:EF w e S b k:= .inl (a.imp id λa=>(c.sto.own_below d k).1 a)
  have:=c.lt f;omega
 ·rcases g k h with f|f
  ·exact c.ap k a f
  ·have:=c.st.lt a;omega
 ·rcases a with a|a
  ·exact(g k a).imp .inl id
  ·exact .inl (.inr a)
def DE{w:Qm}{B0:Nat}{m:Int}{r nm:ByteArray}{l:List ah}(E:Qs (cl B0 w))(F:Qs (0<B0))(a8:Qs (w.cell? ⟨0,0,none⟩=some (.int .i64 m)))(H:fR r nm l)(I:cD nm l=true)(J:r.size<=1000000)
 (a9:Qs (∀S0:aM,S0.c<=18->S0.d=pi (DV.fresh 90)->S0.gen=0->S0.id=0->S0.ps= []->S0.V.pure=dm []->dZ S0 (ik nm l) 19)):
 Qo zP 53 #[(90:Int),r] w (Jn w nm l):=by
 have g:=zh (And.intro H (And.intro I J));clear H I J;go_enter func53,ntmps53;go_wp2_with fail;refine(Aw 90 w zd).mono ?_;rintro x K ⟨dp,rfl,s,B2⟩
 have h:=zh (show∀j,cL K dp j->w.heap.size<=j from λj a=>by
  obtain⟨b0,b1,b2,b3,hq⟩:=s.out;have b4:=hq.ge;rcases(hq.own_iff j).1 a with a|a|a|a
  ·omega
  ·omega
  ·omega
  ·exact(ar hq.waits a).1)
 go_wp2_with fail;have i:=E.1;refine(wG (B0:=B0) (n:=0) (m:=m) (E.fresh B2) s rfl (λj a=>Nq i (h j a)) rx zd zd g.1 g.2.1 g.2.2 ((B2.cell (p:=⟨0,0,none⟩) (No F i)).trans a8) F (λS0 _ _ b5 M N O P Q=>a9 S0 zo M N O P Q)).mono ?_;rintro x d ⟨e,S,b,rfl,f,R,T,o⟩;have U:=zh o;have W:=zh (show∀j,EF d e S b j->w.heap.size<=j from λj a=>(T j a).elim (h j) λX=>Nq B2.size X);have u:=B2.trans (R.below (B:=w.heap.size) (λj a=>h j a) B2.size);have v:S.dp=dp:=by obtain⟨S0,y,L,V,Y,Z,A,a0,q,-⟩:=o;rw[q];exact y.1
 have c: ∃t,rl S.lg= .pointer (some ⟨t,0,none⟩):=by obtain⟨S0,y,L,V,Y,Z,A,a0,q,-⟩:=o;rw[q];exact⟨A,rfl⟩
 obtain⟨t,c⟩:=c;have C:=zh (And.intro v c);obtain⟨b6,b7,b8,b9,c1,c2,c3,c4,c5,c6,c7,c8,a1,c9⟩:=f.sto.cells;obtain⟨d0,d1⟩:=f.ecells;have d2:=aa f.sto.blk;rw[c] at a1;clear i v c;go_wp2_with fail;go_ret2;obtain⟨a2,D⟩:=zx (d.alloc (.cells (jC S++(([.pointer (some ⟨b.s,0,none⟩),.bool true]:List Qn)++([.pointer (some ⟨dp,0,none⟩)]:List Qn))).toArray 195));obtain⟨a3,a4,a5⟩:=f.copy D;have a6:a2=d.alloc (.cells #[(90:Int),(2:Int),(18:Int),(28:Int),(10:Int),(38:Int),(26:Int),S.dp,.int .u64 S.gen,.int .u64 S.id,.map (some S.pm),S.bk,t,(S.bad:Int),b.s,true,dp] 195):=by rw[D,<-C.2];rfl
 rw[<-a6];refine⟨d.heap.size,dp,S,b,rfl,a3,C.1,λk a7=>(a4 k a7).elim (W k) λe=>by have:=u.size;omega,ai u a5,_,U⟩
def mK:ByteArray:=⟨#[112,111,108,105,99,121,44,119,101,98,47,116,105,101,114,44,114,97,119,44,101,118,101,114,121,44,49,44,107,101,101,112,44,49,48,48,44,115,104,97,114,100,115,44,50,47,116,105,101,114,44,116,101,110,115,44,101,118,101,114,121,44,49,48,44,107,101,101,112,44,49,48,48,48,44,115,104,97,114,100,115,44,49]⟩
def pj:ByteArray:=⟨#[112,111,108,105,99,121,32,119,101,98,10,116,105,101,114,32,114,97,119,32,101,118,101,114,121,32,49,32,107,101,101,112,32,49,48,48,32,115,104,97,114,100,115,32,50,10,116,105,101,114,32,116,101,110,115,32,101,118,101,114,121,32,49,48,32,107,101,101,112,32,49,48,48,48,32,115,104,97,114,100,115,32,49,10]⟩
def xc:ByteArray:=⟨#[119,101,98]⟩
def xd:List ah:= [⟨⟨#[114,97,119]⟩,1,100,2⟩,⟨⟨#[116,101,110,115]⟩,10,1000,1⟩]
def LJ:List hV:= [⟨⟨#[112,111,108,105,99,121]⟩,1,1⟩,⟨⟨#[119,101,98]⟩,1,8⟩,⟨⟨#[116,105,101,114]⟩,2,1⟩,⟨⟨#[114,97,119]⟩,2,6⟩,⟨⟨#[101,118,101,114,121]⟩,2,10⟩,⟨⟨#[49]⟩,2,16⟩,⟨⟨#[107,101,101,112]⟩,2,18⟩,⟨⟨#[49,48,48]⟩,2,23⟩,⟨⟨#[115,104,97,114,100,115]⟩,2,27⟩,⟨⟨#[50]⟩,2,34⟩,⟨⟨#[116,105,101,114]⟩,3,1⟩,⟨⟨#[116,101,110,115]⟩,3,6⟩,⟨⟨#[101,118,101,114,121]⟩,3,11⟩,⟨⟨#[49,48]⟩,3,17⟩,⟨⟨#[107,101,101,112]⟩,3,20⟩,⟨⟨#[49,48,48,48]⟩,3,25⟩,⟨⟨#[115,104,97,114,100,115]⟩,3,30⟩,⟨⟨#[49]⟩,3,37⟩]
def DF:GT mK=pj:=zk
def gR:(mK.toList== [])=false/\mK.size<=1000/\(jq mK).size<=1000/\(splitB mK).size<=1000/\Lib.countB mK ⟨#[47]⟩<=1000/\Lib.countB (jq mK) ⟨#[44]⟩<=1000:=
 ⟨zk,Ns zk,Ns zk,Ns zk,Ns zk,Ns zk⟩
def KL:(cd pj (pj.size+1)).out=LJ:=zk
def JK:PW (cd pj (pj.size+1)).out xc xd:=by
 rw[KL];exact⟨_,_,_,rfl,.cons zd (cf (s:=⟨#[49]⟩) zk) (cf (s:=⟨#[49,48,48]⟩) zk) (cf (s:=⟨#[50]⟩) zk) (.cons zd (cf (s:=⟨#[49,48]⟩) zk) (cf (s:=⟨#[49,48,48,48]⟩) zk) (cf (s:=⟨#[49]⟩) zk) (.nil _))⟩
def Jo:Dz pj xc xd:=⟨⟨zk,kj zk,zd⟩,⟨LJ.map λx=>⟨x.text,x.line,x.col⟩,_,_,10,zk,rfl,zk,zk,zk,zd,zd,by obtain⟨_,_,_,_,a⟩:=JK;exact a.good⟩,JK,zd⟩
def rH{w:Qm}{m:Int}(c:w.cell? ⟨0,0,none⟩=some (.int .i64 m)):Qo zP 54 #[mK] w (aK w (.string pj)):=by
 have a:=zX mK gR.1 gR.2.1 gR.2.2.1 gR.2.2.2.1 gR.2.2.2.2.1 gR.2.2.2.2.2 c;rw[DF] at a;exact a
def KM:ByteArray:=⟨#[115,116,111,114,101,32,57,48,32,112,111,108,105,99,121,44,119,101,98,47,116,105,101,114,44,114,97,119,44,101,118,101,114,121,44,49,44,107,101,101,112,44,49,48,48,44,115,104,97,114,100,115,44,50,47,116,105,101,114,44,116,101,110,115,44,101,118,101,114,121,44,49,48,44,107,101,101,112,44,49,48,48,48,44,115,104,97,114,100,115,44,49,10,112,117,116,32,99,112,117,32,48,32,53,10,99,104,97,110,103,101,32,112,111,108,105,99,121,44,119,101,98,47,116,105,101,114,44,114,97,119,44,101,118,101,114,121,44,49,44,107,101,101,112,44,49,48,48,44,115,104,97,114,100,115,44,50,47,116,105,101,114,44,116,101,110,115,44,101,118,101,114,121,44,49,48,44,107,101,101,112,44,49,48,48,48,44,115,104,97,114,100,115,44,49,10,115,116,101,112,10,115,116,101,112,10,115,116,101,112,10,115,116,101,112,10,115,116,101,112,10,99,117,116,10,97,115,107,32,99,112,117,32,48,32,49,48]⟩
def rI:ByteArray:=⟨#[115,116,111,114,101,32,57,48,32,112,111,108,105,99,121,44,119,101,98,47,116,105,101,114,44,114,97,119,44,101,118,101,114,121,44,49,44,107,101,101,112,44,49,48,48,44,115,104,97,114,100,115,44,50,47,116,105,101,114,44,116,101,110,115,44,101,118,101,114,121,44,49,48,44,107,101,101,112,44,49,48,48,48,44,115,104,97,114,100,115,44,49]⟩
def mL:ByteArray:=⟨#[112,117,116,32,99,112,117,32,48,32,53]⟩
def mM:ByteArray:=⟨#[99,104,97,110,103,101,32,112,111,108,105,99,121,44,119,101,98,47,116,105,101,114,44,114,97,119,44,101,118,101,114,121,44,49,44,107,101,101,112,44,49,48,48,44,115,104,97,114,100,115,44,50,47,116,105,101,114,44,116,101,110,115,44,101,118,101,114,121,44,49,48,44,107,101,101,112,44,49,48,48,48,44,115,104,97,114,100,115,44,49]⟩
def eK:ByteArray:=⟨#[115,116,101,112]⟩
def mN:ByteArray:=⟨#[99,117,116]⟩
def mO:ByteArray:=⟨#[97,115,107,32,99,112,117,32,48,32,49,48]⟩
def DH:bU KM ⟨#[10]⟩= [rI,mL,mM,eK,eK,eK,eK,eK,mN,mO]:=zk
def GW:(Lib.join ([mL,mM,eK,eK,eK,eK,eK,mN,mO].map (·.data.toList)) [10]).length<=50000:=Ns zk
def Aa:bU rI ⟨#[32]⟩= [⟨#[115,116,111,114,101]⟩,⟨#[57,48]⟩,mK]:=zk
def oe:rI.size<=990/\Lib.hasPrefix rI.data.toList [35]=false/\ ∀x∈bU rI ⟨#[32]⟩,(x.toList== [])=false:=⟨Ns zk,zk,λx a=>by
 have c:(bU rI ⟨#[32]⟩).all (λx=> !(x.toList== []))=true:=zk;have:=Ob.1 c x a;simpa using this⟩
def Ab:bU mL ⟨#[32]⟩= [⟨#[112,117,116]⟩,⟨#[99,112,117]⟩,⟨#[48]⟩,⟨#[53]⟩]:=zk
def DI:mL.size<=990/\Lib.hasPrefix mL.data.toList [35]=false/\ ∀x∈bU mL ⟨#[32]⟩,(x.toList== [])=false:=⟨Ns zk,zk,λx a=>by
 have c:(bU mL ⟨#[32]⟩).all (λx=> !(x.toList== []))=true:=zk;have:=Ob.1 c x a;simpa using this⟩
def Ac:bU mM ⟨#[32]⟩= [⟨#[99,104,97,110,103,101]⟩,mK]:=zk
def DJ:mM.size<=990/\Lib.hasPrefix mM.data.toList [35]=false/\ ∀x∈bU mM ⟨#[32]⟩,(x.toList== [])=false:=⟨Ns zk,zk,λx a=>by
 have c:(bU mM ⟨#[32]⟩).all (λx=> !(x.toList== []))=true:=zk;have:=Ob.1 c x a;simpa using this⟩
def Ad:bU eK ⟨#[32]⟩= [⟨#[115,116,101,112]⟩]:=zk
def DK:eK.size<=990/\Lib.hasPrefix eK.data.toList [35]=false/\ ∀x∈bU eK ⟨#[32]⟩,(x.toList== [])=false:=⟨Ns zk,zk,λx a=>by
 have c:(bU eK ⟨#[32]⟩).all (λx=> !(x.toList== []))=true:=zk;have:=Ob.1 c x a;simpa using this⟩
def Ae:bU mN ⟨#[32]⟩= [⟨#[99,117,116]⟩]:=zk
def DL:mN.size<=990/\Lib.hasPrefix mN.data.toList [35]=false/\ ∀x∈bU mN ⟨#[32]⟩,(x.toList== [])=false:=⟨Ns zk,zk,λx a=>by
 have c:(bU mN ⟨#[32]⟩).all (λx=> !(x.toList== []))=true:=zk;have:=Ob.1 c x a;simpa using this⟩
def Af:bU mO ⟨#[32]⟩= [⟨#[97,115,107]⟩,⟨#[99,112,117]⟩,⟨#[48]⟩,⟨#[49,48]⟩]:=zk
def DM:mO.size<=990/\Lib.hasPrefix mO.data.toList [35]=false/\ ∀x∈bU mO ⟨#[32]⟩,(x.toList== [])=false:=⟨Ns zk,zk,λx a=>by
 have c:(bU mO ⟨#[32]⟩).all (λx=> !(x.toList== []))=true:=zk;have:=Ob.1 c x a;simpa using this⟩
def Ag(t:ByteArray):Bool:= !(t.toList== [])&& !(Lib.containsAny t.data.toList [32,10])&&decide (t.size<=1000)&&t.data.toList.all (λb=>decide (b.toNat<128))
def DN{t:ByteArray}(a:Ag t=true):(t.toList== [])=false/\Lib.containsAny t.data.toList [32,10]=false/\t.size<=1000/\ ∀(j:Nat) b,t.data.toList[j]?=some b->b.toNat<128:=by
 unfold Ag at a;simp only[Ot,Qb,On] at a;exact⟨a.1.1.1,a.1.1.2,a.1.2,λj b c=>Ns (Ob.1 a.2 b (NO c))⟩
def rJ{l:List ByteArray}(c:l.all Ag=true): ∀t∈l,(t.toList== [])=false/\Lib.containsAny t.data.toList [32,10]=false/\t.size<=1000/\ ∀(j:Nat) b,t.data.toList[j]?=some b->b.toNat<128:=λt a=>DN (Ob.1 c t a)
def Bn:cK:=⟨⟨#[112,117,116]⟩,[0,5],[⟨#[99,112,117]⟩]⟩
def Bo:Bn.fine ⟨#[116,110,110]⟩:=⟨λw=>oU w,zk,⟨zd,zd⟩,rJ zk⟩
def Bp:cK:=⟨⟨#[99,104,97,110,103,101]⟩,[],[mK]⟩
def uH:Bp.fine ⟨#[116]⟩:=⟨λw=>iy ⟨#[99,104,97,110,103,101]⟩ ⟨#[116]⟩ 1 zd zk zk zk rfl zd w,zk,⟨zd,zd⟩,rJ zk⟩
def jy:cK:=⟨⟨#[115,116,101,112]⟩,[],[]⟩
def jr:jy.fine ⟨#[]⟩:=⟨λw=>iy ⟨#[115,116,101,112]⟩ ⟨#[]⟩ 0 zd zk zk zk rfl zd w,zk,⟨zd,zd⟩,rJ zk⟩
def Bq:cK:=⟨⟨#[99,117,116]⟩,[],[]⟩
def Br:Bq.fine ⟨#[]⟩:=⟨λw=>oV w,zk,⟨zd,zd⟩,rJ zk⟩
def Bs:cK:=⟨⟨#[97,115,107]⟩,[0,10],[⟨#[99,112,117]⟩]⟩
def uI:Bs.fine ⟨#[116,110,110]⟩:=⟨λw=>iy ⟨#[97,115,107]⟩ ⟨#[116,110,110]⟩ 3 zd zk zk zk rfl zd w,zk,⟨zd,zd⟩,rJ zk⟩
def DV.cut0(d:DV):DV:={d with on:=false,armed:=false,left:= -1,keep:= [],now:=oZ [] d.waits d.lasts d.waits.length,lasts:=oZ [] d.waits d.lasts d.waits.length,waits:= []}
def GX{d:DV}(a:d.on=true):d.cut []=d.cut0:=by unfold DV.cut DV.cut0;rw[NH a]
def xe{d:DV}{n:Int}(c:DG d n)(e:n<=1000000000):rY (d.cut []):=by
 have a:=c.writes;rw[GX c.on];exact⟨rfl,rfl,a.1,Int.le_trans a.2 e⟩
def xf{d:DV}{n:Int}(a:DG d n):(d.cut []).restore={d.cut0 with on:=true}/\DG (d.cut []).restore n:=by
 have c:=a.blocks;rw[GX a.on];have e:d.cut0.restore={d.cut0 with on:=true}:=by unfold DV.restore;exact NH (by show 0<d.blocks;omega)
 rw[e];exact⟨rfl,rfl,rfl,rfl,c,a.writes⟩
def pH(l:List UInt8)(ws:List ByteArray):Nat->List Int
 |0=> []
 |k+1=>if l.getD k 0=116 then pH l ws k else pH l ws k++ [iq (ws.getD k ByteArray.empty)]
def pI(l:List UInt8)(ws:List ByteArray):Nat->List ByteArray
 |0=> []
 |k+1=>if l.getD k 0=116 then pI l ws k++ [ws.getD k ByteArray.empty] else pI l ws k
def xD(wd:ByteArray)(l:ByteArray)(ws:List ByteArray):cK:=⟨wd,pH l.data.toList ws ws.length,pI l.data.toList ws ws.length⟩
def LK(w:Qm)(s:cK)(x:Qq)(w':Qm):Prop:= ∃nv tv,x= .returned (.tuple #[.agg #[s.word,nv,tv],true])/\Qs (aE w' nv s.nums)/\Qs (bq w' tv s.text)/\Qs (iX w.heap.size nv/\iX w.heap.size tv)/\Qs (Qr w.heap.size w w')
def DO:(zP.info? 3).map (λi=>(i.zero,i.size,i.bytes))=some (some (.int .i64 0),1,8):=zk
structure Mn(w wr:Qm)(b4:Nat)(wd:ByteArray)(ns:List Int)(ts:List ByteArray)(nv tv:Qn):Prop where
 blk:wr.heap[b4]?=some (.cells #[.string wd,nv,tv] 138)
 ints:wr.ownsRow (b4+1) 3 1 nv ns.length (ns.flatMap dK)
 txts:wr.ownsRow (b4+1) 9 1 tv ts.length (ts.flatMap hU)
 bel:Qr w.heap.size w wr
def Bt(l:List UInt8)(ws:List ByteArray): ∀k,(pH l ws k).length<=k
 |0=>Nt _
 |k+1=>by
  have:=Bt l ws k;unfold pH;split
  ·omega
  ·simp;omega
def Bu(l:List UInt8)(ws:List ByteArray): ∀k,(pI l ws k).length<=k
 |0=>Nt _
 |k+1=>by
  have:=Bu l ws k;unfold pI;split
  ·simp;omega
  ·omega
def uJ(l:ByteArray)(k:Nat)(c:k<l.size):l[k]=l.data.toList.getD k 0:=by
 show l.data[k]=_;have a:k<l.data.size:=c;rw[Nr,Array.getElem?_toList,PL a];rfl
def Bv(l:ByteArray)(k:Nat)(c:k<l.size)(a:l.data.toList.getD k 0=116):(((l[k].toNat:Nat):Int)==116)=true:=by rw[uJ,a];rfl
def xg(l:ByteArray)(k:Nat)(c:k<l.size)(a:l.data.toList.getD k 0≠116):(((l[k].toNat:Nat):Int)==116)=false:=by
 rw[uJ];simp only[Od,ne_eq];intro e;exact a (UInt8.toNat_inj.1 (by have:(116:UInt8).toNat=116:=rfl;omega))
def uK(l:List UInt8)(ws:List ByteArray): ∀k,∀x∈pH l ws k,∃j,j<k/\l.getD j 0≠116/\x=iq (ws.getD j ByteArray.empty)
 |0,x,a=>by cases a
 |k+1,x,a=>by
  unfold pH at a;split at a
  ·obtain⟨j,d,c⟩:=uK l ws k x a;exact⟨j,zo,c⟩
  ·rcases Og.1 a with a|a
   ·obtain⟨j,d,c⟩:=uK l ws k x a;exact⟨j,zo,c⟩
   ·exact⟨k,zo,‹_›,Nz.1 a⟩
def uL(l:List UInt8)(ws:List ByteArray): ∀k,∀x∈pI l ws k,∃j,j<k/\x=ws.getD j ByteArray.empty
 |0,x,a=>by cases a
 |k+1,x,a=>by
  unfold pI at a;split at a
  ·rcases Og.1 a with a|a
   ·obtain⟨j,d,c⟩:=uL l ws k x a;exact⟨j,zo,c⟩
   ·exact⟨k,zo,Nz.1 a⟩
  ·obtain⟨j,d,c⟩:=uL l ws k x a;exact⟨j,zo,c⟩
def KN(d:ByteArray): ∀x∈ [d],∀y∈hU x,y.oneCell'=true:=by
 intro x c y a;simp only[hU,NL,NJ,Ou] at c a;subst a;rfl
def MF(d:Int): ∀x∈ [d],∀y∈dK x,y.oneCell'=true:=by
 intro x c y a;simp only[dK,NL,NJ,Ou] at c a;subst a;rfl
section
variable{w wr u w8:Qm}{b4 B n n2:Nat}{wd:ByteArray}{ns:List Int}{ts:List ByteArray}{nv tv tv' v v2:Qn}{e e2:Qp}{xs ys:List Qn}
def Bw(d:u.ownsRow B e 1 v n xs)(a:u.grownBy w8 v.ownBlock)(f:B<=u.heap.size):Qr B u w8:=
 ⟨a.os,a.tape,a.output,a.size,λj c=>a.block j (No c f) λe=>by have:=(ar d e.symm).1;omega⟩
def tE(h:u.ownsRow B e 1 v n xs)(a:u.ownsRow B e2 1 v2 n2 ys)(i:e≠e2)(j:u.grownBy w8 v.ownBlock):w8.ownsRow B e2 1 v2 n2 ys:=
 aZ a λg c=>j.block g (ar a c).2.1 λd=>by
  obtain⟨k,f⟩:=(ar h d.symm).2.2;obtain⟨l,e2⟩:=(ar a c).2.2;rw[f] at e2;injection e2 with e2
  injection e2 with _ e2
  exact i e2
def Mn.next(c:Mn w wr b4 wd ns ts nv tv)(o:w.heap.size<=b4)(d:Qr wr.heap.size wr u)(a:Qr (b4+1) u w8){i:Nat}{y nv':Qn}{ns':List Int}{ts':List ByteArray}(p:(#[.string wd,nv,tv]:Array Qn).setIfInBounds i y=#[.string wd,nv',tv'])
 (h:w8.ownsRow (b4+1) 3 1 nv' ns'.length (ns'.flatMap dK)) (j:w8.ownsRow (b4+1) 9 1 tv' ts'.length (ts'.flatMap hU)):Mn w (w8.setCell ⟨b4,i,none⟩ y) b4 wd ns' ts' nv' tv'/\ ∀k,k<b4->(w8.setCell ⟨b4,i,none⟩ y).heap[k]?=wr.heap[k]?:=by
 have l:=aa c.blk;have f: ∀{e:Qp} {v:Qn} {n:Nat} {xs:List Qn},w8.ownsRow (b4+1) e 1 v n xs-> ∀g,v.ownBlock=some g->g≠b4:=λc g a=>by have:=(ar c a).1;omega
 have m:w8.heap[b4]?=some (.cells #[.string wd,nv,tv] 138):=(a.block b4 zo).trans ((d.block b4 l).trans c.blk);refine⟨⟨?_,aZ h λg a=>af _ (f h g a),aZ j λg a=>af _ (f j g a),?_⟩,λk q=>(af _ (by show k≠b4;omega)).trans ((a.block k zo).trans (d.block k zo))⟩
 ·rw[al m,p]
 ·exact ao ((c.bel.trans (d.mono c.bel.size)).trans (a.mono zo)) o
end
def DQ{w:Qm}{v:Qn}{wd l:ByteArray}{ws:List ByteArray}(i0:bq w v (wd::ws))(e7:Qs (∀u,Qo zP 160 #[.string wd,.int .i64 (ws.length:Int)] u (aK u (.tuple #[.string l,.bool true]))))(e8:l.size=ws.length)(i1:ws.length<=100)(d3:Qs (∀x∈wd::ws,x.size<=1000))
 (e9:Qs (∀k,k<ws.length->l.data.toList.getD k 0≠116->eG (ws.getD k ByteArray.empty)=true)):
 Qo zP 99 #[v] w (LK w (xD wd l ws)):=by
 have f0:=zh (show wd.size<=281474976710656 by have:=d3 wd zm;omega);obtain⟨a,f1,rfl,f2,b3,d4⟩:=i0;obtain⟨b,o,rfl,N,b5⟩:=d4 zm;have d5:=zh b5;have c0:w.cell? ⟨b,o,none⟩=some (.string wd):=b5 0 zm;obtain⟨t,s⟩:=zy (ws.length:Nat);rw[show(wd::ws).length=t+1 by rw[s];rfl] at b3⊢;rw[<-s] at e7 i1;have i2:t+1<=f1:=b3.1;clear f2 d4 b5 b3;have i3:wrap64 ((t:Int)+1-1)=t:=by unfold wrap64;omega
 obtain⟨f3,f4,f5,f6,f7⟩:=info_parts kH;obtain⟨f8,b6,f9,g0,g1⟩:=info_parts DO;go_enter func99,ntmps99;go_wp2_with fail;refine zb (eV wd _ f0) λg2 g3=>?_
 obtain⟨F,C⟩:=bl g3;have b7:=zh F;have a1:=zh C;obtain⟨m,L⟩:=zy w.heap.size;rw[<-L] at F b7⊢;clear F C;have c0:=(a1.cell (p:=⟨b,o,none⟩) N).trans c0;have d6:=No N a1.size;go_wp2_with fail;refine(e7 _).mono ?_;rintro x g4 ⟨rfl,O⟩;obtain⟨F,C⟩:=bl O;obtain⟨b4,b8⟩:=zx g2.heap.size;rw[<-b8] at F⊢;have d7:=zh (And.intro (ab b7 C) F);have g5:=zh (show Qr w.heap.size w g4 from ai a1 C);have H:=zh (show m<b4 by rw[b8];exact aa b7);have i4:=zh (λ(k:Nat) (b9:k<t)=>(C.cell (p:=⟨b,o+(k+1),none⟩) d6).trans ((a1.cell (p:=⟨b,o+(k+1),none⟩) N).trans (d5 (k+1) (by rw[s] at b9;simpa using b9))));have i5:=No d6 C.size;clear F C b8 c0;obtain⟨d,d8⟩:=zx l.data.toList;have I:=zh (And.intro d8 e8);clear d8;go_wp2_with fail
 all_goals
  (try clear e8)
  go_loopw [32] (λi wr=> ∃(k:Nat),k<=t/\i= .int .i64 k/\ ∃nv tv,Qs (Mn w wr b4 wd (pH d ws k) (pI d ws k) nv tv)/\Qs (wr.heap[m]?=some (.cells #[.string ⟨#[]⟩,.slice none 0 0,.slice none 0 0] 138))) (λi _=>t-(intOf i).toNat)
  case atStart=>exact⟨0,Nx _,rfl,_,_,zh ⟨d7.2,World.ownsRow_nil _ _ _ _,World.ownsRow_nil _ _ _ _,g5⟩,zh d7.1⟩
  case round=>
   obtain⟨k,b9,rfl,nv,tv,f,D⟩:=hrel;obtain⟨P,Q,rfl⟩:=az f.ints;obtain⟨R,T,rfl⟩:=az f.txts;by_cases a2:k<t
   ·first
     |(exfalso;omega)
     |skip
    all_goals
     have a3:=(f.bel.cell (p:=⟨b,o+(k+1),none⟩) N).trans (d5 (k+1) (by have:=s.out;simp;omega));rw[(zo:o+(k+1)=o+1+k),show(wd::ws).getD (k+1) ByteArray.empty=ws.getD k ByteArray.empty from rfl] at a3;obtain⟨q,U⟩:=zy (ws.getD k ByteArray.empty);have g6:=zh (show q.size<=1000 by rw[U];have c1:k<ws.length:=(by rw[<-s];exact a2);rw[Nr,Np c1];exact d3 _ (Oj _ (NT _)));rw[<-U] at a3;have d9:=No N f.bel.size;have e0:k<l.size:=by rw[I.2,<-s];exact a2
     by_cases A:d.getD k 0=116
     ·have g7:=Bv l k e0 (by rw[<-I.1];exact A)
      have c2:Qs (pH d ws (k+1)=pH d ws k):=NH A;have c3:=zh (show pI d ws (k+1)=pI d ws k++ [q] by rw[U];exact NH A);clear A;go_wp2_with fail;clear a3 d9;obtain⟨a4,a5,a6⟩:=aW f.blk;have a7:=aa f.blk;have g8:=ad (o:=2) f.blk;refine aC (S:=(iz wr)) 5 zk ?_ (λh=>?_)
      ·(first|exact ax _|exact aj _ _ h O|exact aj _ _ h (ak _ _)|exact h)
      refine zT 0 ?_;refine zT 1 ?_;refine zT 2 ?_;refine zO 3 λc4 V=>?_
      go_simp;refine zb (eV q _ (by have:=g6.out;omega)) λe1 O=>?_
      refine V.out _ _ ?_ (λW=>?_)
      ·(first|exact ax _|exact aj _ _ h O|exact aj _ _ h (ak _ _)|exact h)
      clear V c4 h;have h:=W;clear W
      try simp only[zS]
      refine zO 4 λc4 V=>?_
      go_simp
      skip
      refine V.out _ _ ?_ (λW=>?_)
      ·(first|exact ax _|exact aj _ _ h O|exact aj _ _ h (ak _ _)|exact h)
      clear V c4 h;have h:=W;clear W
      try simp only[zS]
      refine ou rfl zk zk ?_;have r:=zh h.1;have e2:=zh (bC 1 (enc:=hU) (c:=1) (l:= [q]) (ag (w:=e1) (o:= .cells #[.string q] 9) rfl) rfl ⟨Nt 1,zd⟩);obtain⟨a8,M⟩:=zx (e1.alloc (.cells #[.string q] 9):Qm);rw[<-M] at r e2⊢;clear M h a4 a5 a6 a7 g8;have c5:=zh (aS f.txts r);go_wp2_with (at_builtin;refine bb (enc:=hU) rfl _ _ 121 rfl (b4+1) 9 f3 _ 16 underlying121 f4 f5 f6 f7 rfl zd _ _ (pI d ws k).length _ [q] rfl c5 rfl e2 (λ_=>rfl) (KN q) (by have:=Bu d ws k;show((pI d ws k).length+1)*16<140737488355328;omega) zd ?qc3 ?_)
      case qc3=>have:=r.size;have:=aa f.blk;omega
      intro g9 w8 J E a9;obtain⟨c6,c7,rfl⟩:=az J;have X:b4+1<=a8.heap.size:=by have:=r.size;have:=aa f.blk;omega
      have K:=Bw c5 E X;have B:=(K.block b4 zo).trans (ab f.blk r);have Y:=zh (f.next (y:= .slice c6 ((pI d ws k).length+1) c7) (i:=2) (nv':= .slice P (pH d ws k).length Q) (ns':=pH d ws (k+1)) (ts':=pI d ws (k+1)) (by have:=L.out;have:=H.out;omega) r K rfl (by rw[c2];exact tE c5 (aS f.ints r) zd E) (by rw[c3,Nw,NK];exact J));have h0:=aa B;have h1:=ad (o:=2) B;obtain⟨h2,h3,h4⟩:=aW B;clear J E a9 X K B;go_wp2_with fail;go_roundw
      case rel=>exact⟨k+1,zo,by go_num,_,_,zh Y.1,zh ((Y.2 m H).trans D)⟩
      case measure=>simp[intOf];omega
     ·have g7:=xg l k e0 (by rw[<-I.1];exact A)
      have c2:=zh (show pH d ws (k+1)=pH d ws k++ [iq q] by rw[U];exact NB A);have c3:Qs (pI d ws (k+1)=pI d ws k):=NB A;have h5:=zh (show eG q=true by rw[U];exact e9 k (by rw[<-s];exact a2) (by rw[<-I.1];exact A));clear A;go_wp2_with fail;refine zb (jd q _ h5) λe3 r=>?_
      have c8:=ab f.blk r;obtain⟨a4,a5,a6⟩:=aW c8;have a7:=aa c8;obtain⟨Z,e4⟩:=zy (iq q);rw[<-e4];have b0:=zh (aS f.ints (ai r (ak e3 (.cells #[.int .i64 Z] 3))));clear c8 a3 d9;go_wp2_with (at_builtin;refine bb (enc:=dK) rfl _ _ 44 rfl (b4+1) 3 f8 _ 8 underlying44 b6 f9 g0 g1 rfl zd _ _ (pH d ws k).length _ [Z] rfl b0 rfl (bC 1 (c:=1) (l:= [Z]) (ag zm) rfl ⟨Nt 1,zd⟩) (λ_=>rfl) (MF Z) (by have:=Bt d ws k;show((pH d ws k).length+1)*8<140737488355328;omega) zd ?qc3 ?_)
      case qc3=>have:=r.size;have:=aa f.blk;simp;omega
      intro g9 w8 J E a9;obtain⟨c6,c7,rfl⟩:=az J;obtain⟨a8,M⟩:=zx (e3.alloc (.cells #[.int .i64 Z] 3):Qm);have b1:=zh (show Qr wr.heap.size wr a8 by rw[M];exact ai r (ak _ _));rw[<-M] at E a9 b0;have X:b4+1<=a8.heap.size:=by have:=b1.size;have:=aa f.blk;omega
      have K:=Bw b0 E X;have B:=(K.block b4 zo).trans (ab f.blk b1);have Y:=zh (f.next (y:= .slice c6 ((pH d ws k).length+1) c7) (i:=1) (tv':= .slice R (pI d ws k).length T) (ns':=pH d ws (k+1)) (ts':=pI d ws (k+1)) (by have:=L.out;have:=H.out;omega) b1 K rfl (by rw[c2,<-e4,Nw,NK];exact J) (by rw[c3];exact tE b0 (aS f.txts b1) zd E));have h0:=aa B;have h1:=ad (o:=1) B;obtain⟨h2,h3,h4⟩:=aW B;clear J E a9 X K B M a4 a5 a6 a7;go_wp2_with fail;go_roundw
      case rel=>exact⟨k+1,zo,by go_num,_,_,zh Y.1,zh ((Y.2 m H).trans D)⟩
      case measure=>simp[intOf];omega
   ·obtain rfl:k=t:=zo
    clear a2;have c9:=f.blk;obtain⟨a4,a5,a6⟩:=aW c9;have a7:=aa c9;have i6:=aa D;have i7:=ad (o:=0) D;have i8:=ad (o:=1) D;have i9:=ad (o:=2) D;obtain⟨z0,z1,z2⟩:=aW D;clear c9;go_wp2_with fail;obtain⟨d0,b2⟩:=zx (((wr.setCell ⟨m,0,none⟩ (.string wd)).setCell ⟨m,1,none⟩ (.slice P (pH d ws k).length Q)).setCell ⟨m,2,none⟩ (.slice R (pI d ws k).length T):Qm);have h6:d0.heap[m]?=some (.cells #[.string wd,.slice P (pH d ws k).length Q,.slice R (pI d ws k).length T] 138):=by rw[b2];exact bW (.string wd) (.slice P (pH d ws k).length Q) (.slice R (pI d ws k).length T) D
    have e5: ∀j,j≠m->d0.heap[j]?=wr.heap[j]?:=λj b6=>by rw[b2];exact aR _ _ _ b6
    have h7:Qr w.heap.size w d0:=by have:=L.out;rw[b2];exact ao (ao (ao f.bel (by show _<=m;omega)) (by show _<=m;omega)) (by show _<=m;omega)
    rw[<-b2];have e6: ∀{e:Qp} {v:Qn} {n:Nat} {xs:List Qn},wr.ownsRow (b4+1) e 1 v n xs-> ∀g,v.ownBlock=some g->g≠m:=λh8 g a0=>by have:=(ar h8 a0).1;have:=H.out;omega
    refine NG (v:= .tuple #[.agg #[.string wd,.slice P (pH d ws k).length Q,.slice R (pI d ws k).length T],.bool true]) (aJ results99 _ _ _ _ _ _ _ _ rfl rfl h6 underlying138 rfl zk) rfl ⟨_,_,rfl,?_,?_,⟨(aB.own f.ints).2.mono (by have:=L.out;have:=H.out;omega),(aB.own f.txts).2.mono (by have:=L.out;have:=H.out;omega)⟩,h7⟩
    ·have e:(xD wd l ws).nums=pH d ws k:=by show pH _ _ _=_;rw[I.1,s]
     rw[e];refine ei (aZ f.ints λg a0=>e5 g (e6 f.ints g a0)) λx d1=>?_
     obtain⟨j,d2,h9,rfl⟩:=uK _ _ _ _ d1;have:=Ib (e9 j (by rw[<-s];exact d2) (by rw[<-I.1];exact h9));omega
    ·have e:(xD wd l ws).text=pI d ws k:=by show pI _ _ _=_;rw[I.1,s]
     rw[e];refine tw (aB.own (aZ f.txts λg a0=>e5 g (e6 f.txts g a0))).1 λx d1=>?_
     obtain⟨j,d2,rfl⟩:=uL _ _ _ _ d1;have c1:j<ws.length:=by rw[<-s];exact d2
     have:(ws.getD j ByteArray.empty).size<=1000:=by rw[Nr,Np c1];exact d3 _ (Oj _ (NT _))
     omega
def xh(l:List UInt8):Nat->Nat
 |0=>0
 |k+1=>if l.getD k 0=116 then xh l k+1 else xh l k
def xi(l:List UInt8):Nat->Nat
 |0=>0
 |k+1=>if l.getD k 0=116 then xi l k else xi l k+1
def HH(s:cK)(l:List UInt8):Nat->List ByteArray
 |0=> [s.word]
 |k+1=>HH s l k++ [if l.getD k 0=116 then s.text.getD (xh l k) ByteArray.empty else gF (s.nums.getD (xi l k) 0)]
def rK(s:cK)(l:ByteArray):ByteArray:=⟨(Lib.join ((HH s l.data.toList l.size).map (·.data.toList)) [32]).toArray⟩++⟨#[10]⟩
def pJ(s:cK)(l:List UInt8): ∀k,(HH s l k).length=k+1
 |0=>rfl
 |k+1=>by unfold HH;rw[Nw,pJ s l k];rfl
def xj(l:List UInt8){k n:Nat}(a:k<=n):xh l k<=xh l n/\xi l k<=xi l n:=by
 induction a with
 |refl=>exact⟨Nt _,Nt _⟩
 | @step m a e=>
  have c:xh l (m+1)=if l.getD m 0=116 then xh l m+1 else xh l m:=rfl
  have d:xi l (m+1)=if l.getD m 0=116 then xi l m else xi l m+1:=rfl
  rw[c,d];split<;>omega
structure Jp(s:cK)(l:ByteArray):Prop where
 n:l.size<=100
 tx:xh l.data.toList l.size=s.text.length
 nm:xi l.data.toList l.size=s.nums.length
 asc: ∀k (h:k<l.size),(l[k]'h).toNat<128
 ok: ∀x∈s.nums,aQ x/\eG (gF x)=true
 len:(Lib.join ((HH s l.data.toList l.size).map (·.data.toList)) [32]).length<=100000
def xk(a0:Option Addr)(n c:Nat)(v:Qn):Prop:= ∃a d,v= .slice a (n-c) d/\n-c<=d/\(c<n-> ∀b o,a0=some ⟨b,o,none⟩->a=some ⟨b,o+c,none⟩)
def xk.start(a0:Option Addr){n c:Nat}(a:n<=c):xk a0 n 0 (.slice a0 n c):=⟨a0,c,rfl,a,λ_ b o e=>by rw[e,NR]⟩
def tF(L:List ByteArray):L.flatMap hU=L.map Value.string:=by
 induction L with
 |nil=>rfl
 |cons x l a=>rw[NZ,Oq,a];rfl
def xl{w w':Qm}{b:Nat}{o:Obj}(a:w.heap[b]?=some o)(c:Qr w.heap.size w w'):w'.heap[b]?=some o:=(c.block b (aa a)).trans a
section
variable{w W1 W5 w8 u:Qm}{b2 b5 n n' k og:Nat}{l:ByteArray}{a0 oa:Option Addr}{o o':Qn}{xs ys:List Qn}{T:Qp}
def xk.next{c M d:Nat}(k:1<=M)(l:M=n-c)(m:M<=d){a f:Nat}(i:a0=some ⟨a,f,none⟩):
 xk a0 n (c+1) (.slice (if d=1 then some ⟨a,f+c,none⟩ else some ⟨a,f+c+1,none⟩) (M-1) (d-1)):=by
 subst i;refine⟨_,d-1,by rw[(zo:n-(c+1)=M-1)],zo,λj b o e=>?_⟩;injection e with e
 injection e with g h
 subst g h;rw[NB zo];rfl
def Bx(h:W1.heap[b5]?=some (.stringIter l (k+1)))(i:W1.ownsRow b2 T 1 o n xs)(m:Qr b2 W5 W1)(d:o.ownBlock=some og/\og≠b5)(p:b2<=W1.heap.size/\b5<W1.heap.size)(s:b2<b5)(c:Ch (λk=>o.ownBlock=some k) W1 w8)(a:fM u o o')(t:W1.heap.size<=u.heap.size)(f:w8.ownsRow b2 T 1 o' n' ys)(q:n'≠0):
 w8.heap[b5]?=some (.stringIter l (k+1))/\w8.ownsRow b2 T 1 o' n' ys/\(∃g,o'.ownBlock=some g/\g≠b5)/\Qr b2 W5 w8:=by
 refine⟨(c.block b5 p.2 λe=>?_).trans h,f,?_,m.trans ⟨c.os,c.tape,c.output,c.size,λj r=>c.block j zo λe=>by have:=(ar i e).1;omega⟩⟩
 ·rw[d.1] at e
  injection e with e
  exact d.2 e
 ·obtain⟨g,cap,rfl,-⟩:=dr f q
  refine⟨g,rfl,λe=>?_⟩;rcases a with a|a
  ·rw[d.1] at a
   injection a with a
   exact d.2 (a.symm.trans e)
  ·have:=a g rfl
   omega
end
def DR{w:Qm}{B:Nat}{v:Qn}{s:cK}{l:ByteArray}(j6:cl B w)(j7:cg w v s)(j8:s.fine l)(f3:Jp s l):Qo zP 55 #[v] w (aK w (.tuple #[.string (rK s l),true])):=by
 have j9:=zh j6;have k0:=zh j8;have g9:=zh j7;have N:=zh f3;obtain⟨H,y,A⟩:=s;obtain⟨m6,m7,rfl,q,O⟩:=j7;obtain⟨k1,m8,rfl,-,c4,h0⟩:=q;obtain⟨k2,m9,rfl,-,c5,h1⟩:=O;dsimp only at*;have k3:=zh h0;have k4:=zh h1;obtain⟨e5,a7⟩:=zy (A.length:Nat);obtain⟨e6,V⟩:=zy (y.length:Nat);have c4:=c4.1;have c5:=c5.1;rw[<-a7] at c5⊢;rw[<-V] at c4⊢;rw[<-a7,<-V] at g9;obtain⟨h2,h3,h4,h5,h6⟩:=info_parts kH;clear j6 j8 f3 h0 h1;go_enter func55,ntmps55;go_wp2_with fail;refine zb (ga (s:=⟨H,y,A⟩) (l:=l) (g9.below ze) k0) λc6 k5=>?_
 obtain⟨a8,h7⟩:=bl k5;have h8:=zh a8;have k6:=zh h7;obtain⟨k7,h9⟩:=zy w.heap.size;rw[<-h9] at a8 h8⊢;obtain⟨c0,e7,e8⟩:=aW a8;have I:=aa a8;clear a8 h7;go_wp2_with fail;obtain⟨W,c7⟩:=zx (c6.alloc (.cells #[H] 9):Qm);obtain⟨b2,c8⟩:=zx c6.heap.size;have e9:Qr c6.heap.size c6 W:=by rw[c7];exact ak _ _
 have i0:=zh (show W.heap[b2]?=some (.cells #[H] 9) by rw[c7,c8];exact Nu _ _);have i1:=zh (ab h8 e9);have B2:=ai k6 e9;have k8:=zh (show k7<b2 by rw[c8];exact I);rw[<-c7,<-c8];clear c7 e9 c8 c0 e7 e8 I;obtain⟨c0,e7,e8⟩:=aW i1;have I:=aa i1;go_quiet (fail);clear c0 e7 e8 I;go_wp2_with fail;obtain⟨b5,c9⟩:=zx W.heap.size;obtain⟨W5,d0⟩:=zx ((W.drewN nq).iter l 0:Qm);have f0:Qr W.heap.size W W5:=by rw[d0];exact ai (dU zr nq) ze
 have k9:=zh (show W5.heap[b5]?=some (.stringIter l 0) by rw[d0,c9];exact Nu _ _);have f1:=zh (ab i0 f0);have i2:=ai B2 f0;have d1:=zh (show b2<b5 by rw[c9];exact aa i0);have d2:=zh (show w.heap.size<=b2 by have:=h9.out;have:=k8.out;omega);rw[<-c9,<-d0];clear c9 d0 f0;obtain⟨X,f2⟩:=zx l.size;obtain⟨f,i3⟩:=zx l.data.toList;obtain⟨r,d3⟩:=zx (HH ⟨H,y,A⟩ f:Nat->List ByteArray);have d:=zh (And.intro f2 (And.intro i3 d3));have l0:=N.n;rw[<-f2] at l0;have l1:=zh (show W5.ownsRow b2 9 1 (.slice (some ⟨b2,0,none⟩) 1 1) (0+1) ((r 0).flatMap hU) from⟨by rw[d3];rfl,.inr ⟨b2,1,#[H],rfl,Nt _,f1,zd,zd,rfl,by rw[d3];rfl⟩⟩);clear f2 i3 d3;go_loopw [6,7,8] (λo n t wr=> ∃(k:Nat),k<=X/\Qs (wr.heap[b5]?=some (.stringIter l k))/\Qs (wr.ownsRow b2 9 1 o (k+1) ((r k).flatMap hU))/\(∃g,o.ownBlock=some g/\g≠b5)/\Qs (xk k1 e6 (xi f k) n)/\Qs (xk k2 e5 (xh f k) t)/\Qs (Qr b2 W5 wr)) (λ_ _ _ wr=>X-wr.iterPos b5)
 case atStart=>exact⟨0,Nx _,k9,l1,⟨b2,rfl,by have:=d1.out;omega⟩,zh (.start _ c4),zh (.start _ c5),zh zr⟩
 case round=>
  obtain⟨k,f3,d4,f4,⟨og,d5,f5⟩,f6,f7,i4⟩:=hrel;obtain⟨oa,J,rfl⟩:=az f4;have i5:=iterPos_of d4;by_cases d6:k<X
  ·have Y:k<l.size:=by rw[<-d.1];exact d6
   have d7: ∀P,(Instr.next (.pointer (some ⟨b5,0,none⟩)) true P).run zP wr=_:=λP=>Lib.run_next_ascii_at wr b5 l k P d4 Y (N.asc k Y)
   have d8:=Lib.iterAt_heap wr b5 l k (k+1) d4;have a9:=Lib.below_iterAt i4 (k:=b5) (by have:=d1.out;omega) l (k+1);have f8:(wr.iterAt b5 l (k+1)).ownsRow b2 9 1 (.slice oa (k+1) J) (k+1) ((r k).flatMap hU):=aZ f4 λg f9=>Pe (by rw[d5] at f9;injection f9 with f9;omega)
   obtain⟨W1,h⟩:=zx (wr.iterAt b5 l (k+1));rw[<-h] at d7 d8 a9 f8;have i6:=zh d8;have Z:=zh f8;have i7:=zh a9;have i8:=zh (And.intro d5 f5);have S1:=zh (show b2<=W1.heap.size/\b5<W1.heap.size from⟨by have:=a9.size;have:=aa f1;omega,aa d8⟩);clear d8 f8 h d5 f5;have a0:=zh (show Qr w.heap.size w W1 from i2.trans (a9.mono d2));clear a9;by_cases C:f.getD k 0=116
   ·have g0:=Bv l k Y (by rw[<-d.2.1];exact C)
    have a1:xh f (k+1)=xh f k+1:=NH C;have a2:xi f (k+1)=xi f k:=NH C;have h:r (k+1)=r k++ [A.getD (xh f k) ByteArray.empty]:=by rw[d.2.2];show HH _ f k++_=_;rw[NH C]
    obtain⟨i,a3⟩:=zx (xh f k);rw[<-a3] at a1 h f7
    have g1:i<e5:=by
     have q:=(xj f (zo:k+1<=X)).1;have O:=N.tx;rw[<-d.2.1,<-d.1] at O;have b0:=a7.out;have g2:A.length=(cK.mk H y A).text.length:=rfl;omega
    have b1:A≠ []:=λe=>by have:=a7.out;rw[e] at this;simp at this;omega
    obtain⟨E,Q,rfl,b3,b4⟩:=k4 b1;obtain⟨l2,i9,rfl,a4,b6⟩:=f7.out;obtain rfl:=b6 g1 _ _ rfl;have b7:=(a0.out.cell (p:=⟨E,Q+i,none⟩) b3).trans (b4 i (by have:=a7.out;omega));obtain⟨K,a5⟩:=zx (A.getD i ByteArray.empty);rw[<-a5] at b7 h;have I:=No b3 a0.out.size;obtain⟨M,R⟩:=zx (e5-i);have g3:=zh R;have b8:1<=M:=zo;rw[<-R] at a4⊢;have T:=zh (And.intro a1 (And.intro a2 h));have n0:=zh a3;have d9:(Value.slice oa (k+1) J).ownBlock≠some E:=λe=>by have:=(ar Z e).1;have:=d2.out;omega
    have n1:=zh d9;clear a5 R a1 a2 h C a3 b6 b4 b1;go_wp2_with fail;have l3:0<M:=b8;have l4:(1:Int)<=(M:Int):=zo;refine aC (S:=(rX (.slice oa (k+1) J) W1)) 10 zk ?_ (λa=>?_)
    ·(first|exact dH _ _|exact bG a m|exact bG a ze|exact dh a D)
    refine zT 0 ?_;refine zT 1 ?_;refine zT 2 ?_;refine zT 3 ?_;refine zT 6 ?_;refine zT 7 ?_;refine zO 4 λe0 F=>?_
    go_simp
    skip
    refine zE F (by first|exact dH _ _|exact bG a m|exact bG a ze|exact dh a D) λa=>?_
    refine zO 5 λe0 F=>?_
    rw[NH (by simp[Region.wanted])];refine bX (enc:=hU) _ _ 121 rfl b2 9 h2 _ 16 underlying121 h3 h4 h5 h6 rfl zd _ _ (k+1) _ [K] rfl (aS Z (ai (zr.drew) ze)) rfl (bC 1 (c:=1) (l:= [K]) (ag zm) rfl ⟨Nt 1,zd⟩) (λ_=>rfl) (KN K) (by show(k+1+1)*16<140737488355328;omega) zd (by have:=S1.out;have q:W1.drew.heap.size=W1.heap.size:=rfl;simp;omega) (λb9 w8 U D c1=>?_);refine zE F (by first|exact dH _ _|exact bG a m|exact bG a ze|exact dh a D) λa=>?_
    refine zT 8 ?_;refine zT 9 ?_;refine zH ?_;have c2:fM (W1.drew.alloc (.cells #[K] 9)) (.slice oa (k+1) J) b9:=c1;have L:=zh (Bx (o':=b9) (i6) Z i7 i8 S1 d1 a.1 c2 zm U (Pm _));have e1:=xk.next b8 g3 a4 (rfl:some (⟨E,Q,none⟩:Addr)=_);obtain⟨n2,j0,rfl⟩:=az U;clear U D c1 c2 a b7 I d9 d7 g0;go_wp2_with fail;go_roundw
    case rel=>
     obtain⟨q,O,b0,g2⟩:=L.out;exact⟨k+1,d6,zh q,zh (by rw[T.2.2,NK];exact O),b0,by rw[T.2.1];exact f6,by rw[T.1];exact e1,zh g2⟩
    case measure=>rw[iterPos_of L.1,i5];omega
   ·have g0:=xg l k Y (by rw[<-d.2.1];exact C)
    have a1:xh f (k+1)=xh f k:=NB C;have a2:xi f (k+1)=xi f k+1:=NB C;have h:r (k+1)=r k++ [gF (y.getD (xi f k) 0)]:=by rw[d.2.2];show HH _ f k++_=_;rw[NB C]
    obtain⟨i,a3⟩:=zx (xi f k);rw[<-a3] at a2 h f6
    have g1:i<e6:=by
     have q:=(xj f (zo:k+1<=X)).2;have O:=N.nm;rw[<-d.2.1,<-d.1] at O;have b0:=V.out;have g2:y.length=(cK.mk H y A).nums.length:=rfl;omega
    have b1:y≠ []:=λe=>by have:=V.out;rw[e] at this;simp at this;omega
    obtain⟨E,Q,rfl,b3,b4⟩:=k3 b1;obtain⟨l2,i9,rfl,a4,b6⟩:=f6.out;obtain rfl:=b6 g1 _ _ rfl;have b7:=(a0.out.cell (p:=⟨E,Q+i,none⟩) b3).trans (b4 i (by have:=V.out;omega));obtain⟨K,a5⟩:=zx (y.getD i 0);rw[<-a5] at b7 h;have g4:=zh (N.ok K (by rw[a5,Nr,Np (by have:=V.out;omega)];exact NT _));have I:=No b3 a0.out.size;obtain⟨M,R⟩:=zx (e6-i);have g3:=zh R;have b8:1<=M:=zo;rw[<-R] at a4⊢;obtain⟨a6,g5⟩:=zx (gF K);rw[<-g5] at h g4;have l5:=zh g5;have T:=zh (And.intro a1 (And.intro a2 h));have d9:(Value.slice oa (k+1) J).ownBlock≠some E:=λe=>by have:=(ar Z e).1;have:=d2.out;omega
    clear a5 R a1 a2 h C a3 b6 b4 b1 g5;go_wp2_with fail;have l3:0<M:=b8;have l4:(1:Int)<=(M:Int):=zo;have l6:=zh (λ(u:Qm) (l7:Qr W1.heap.size W1 u)=>j9.fresh (a0.out.trans (l7.mono a0.out.size)));refine aC (S:=(rX (.slice oa (k+1) J) W1)) 11 zk ?_ (λa=>?_)
    ·(first|exact dH _ _|exact bG a m|exact bG a ze|exact dh a D)
    refine zT 0 ?_;refine zT 1 ?_;refine zT 2 ?_;refine zT 3 ?_;refine zT 7 ?_;refine zT 8 ?_;refine zO 4 λe0 F=>?_
    go_simp;refine zb (hD (B:=B) K _ (l6 _ (zr.drew)) g4.1) λl8 m=>?_;rw[<-l5]
    refine zE F (by first|exact dH _ _|exact bG a m|exact bG a ze|exact dh a D) λa=>?_
    refine zO 5 λe0 F=>?_
    go_simp
    skip
    refine zE F (by first|exact dH _ _|exact bG a m|exact bG a ze|exact dh a D) λa=>?_
    refine zO 6 λe0 F=>?_
    rw[NH (by simp[Region.wanted])];refine bX (enc:=hU) _ _ 121 rfl b2 9 h2 _ 16 underlying121 h3 h4 h5 h6 rfl zd _ _ (k+1) _ [a6] rfl (aS Z (ai (ec m) ze)) rfl (bC 1 (c:=1) (l:= [a6]) (ag zm) rfl ⟨Nt 1,zd⟩) (λ_=>rfl) (KN a6) (by show(k+1+1)*16<140737488355328;omega) zd (by have:=S1.out;have q:=(ec m).size;simp;omega) (λb9 w8 U D c1=>?_);refine zE F (by first|exact dH _ _|exact bG a m|exact bG a ze|exact dh a D) λa=>?_
    refine zT 9 ?_;refine zT 10 ?_;refine zH ?_;have c2:fM (l8.alloc (.cells #[a6] 9)) (.slice oa (k+1) J) b9:=c1;have L:=zh (Bx (o':=b9) (i6) Z i7 i8 S1 d1 a.1 c2 (by have:=(ec m).size;simp;omega) U (Pm _));have e1:=xk.next b8 g3 a4 (rfl:some (⟨E,Q,none⟩:Addr)=_);obtain⟨g6,j0,rfl,g7,e2,e3,-,-,c3⟩:=dr U (Pm _);have l9:w8.cell? ⟨g6,k+1,none⟩=some (.string a6):=c3 (k+1) _ (by rw[tF,OE (by rw[OC];have:=d.2.2;rw[this,pJ];exact Nt _)];rw[OC,d.2.2,pJ,Ql];rfl);have m0:wrap64 (((k+1+1:Nat):Int)-1)=((k+1:Nat):Int):=by unfold wrap64;omega
    obtain⟨n3,j1⟩:=zx (if i9=1 then some (⟨E,Q+i,none⟩:Addr) else some ⟨E,Q+i+1,none⟩);rw[<-j1] at e1⊢;clear U D c1 c2 a b7 I d9 d7 g0 g7 c3 e3 a4 j1;go_wp2_with fail;refine zb (jd a6 w8 g4.2) λn4 g8=>?_
    have j2:=zh (xl L.1 g8);have j3:=zh (And.intro (aS L.2.1 g8) (L.2.2.2.trans (g8.mono (by have:=L.2.2.2.size;have:=aa f1;omega))));clear l9 m0 e2;go_wp2_with fail;go_roundw
    case rel=>
     obtain⟨-,-,b0,-⟩:=L.out;exact⟨k+1,d6,zh j2.out,zh (by rw[T.2.2,NK];exact j3.1),b0,by rw[T.2.1];exact e1,by rw[T.1];exact f7,zh j3.2⟩
    case measure=>rw[iterPos_of j2,i5];omega
  ·obtain rfl:k=X:=zo
   have Y: ¬k<l.size:=by rw[<-d.1];exact d6
   have d7: ∀P,(Instr.next (.pointer (some ⟨b5,0,none⟩)) true P).run zP wr=_:=λP=>Lib.run_next_end_at wr b5 l k P d4 Y
   obtain⟨g6,j0,e,g7,e2,e3,-,-,c3⟩:=dr f4 (Pm _);injection e with m1 m2 m3
   subst m1 m3;have e4:(r k).length=k+1:=by rw[d.2.2,pJ]
   have j4:=zh (strings_Join g6 0 J (r k) ⟨#[32]⟩ wr (λj x m4=>by rw[Ok];exact c3 j _ (by rw[tF,OG,m4];rfl)) e2 (by rw[e4];omega) (by rw[e4];exact e3) (by have q:=N.len;rw[d.2.2,d.2.1,d.1];exact Nq q zd));rw[e4] at j4;have j5:=zh (show Qr w.heap.size w wr from i2.trans (i4.mono d2));clear g7 e2 e3 c3 e4 m2 d5 f5;go_wp2_with fail;refine j4.mono ?_;rintro x n5 ⟨rfl,m⟩;have m5:=j5.trans (m.mono j5.size);clear m;have n6:(Lib.join ((r k).map (·.data.toList)) [32]).length<=100000:=by have q:=N.len;rw[d.2.2,d.2.1,d.1];exact q
   go_wp2_with fail;go_ret2;have e:r k=HH ⟨H,y,A⟩ l.data.toList l.size:=by rw[d.2.2,d.2.1,d.1]
   exact⟨by rw[e];rfl,m5⟩
def Ah:(zP.info? 138).map (λi=>(i.zero,i.size,i.bytes))=some (some (.agg #[ByteArray.empty,z0,z0]),3,64):=zk
structure js(x wd l:ByteArray)(ws:List ByteArray):Prop where
 sz:x.size<=990
 pre:Lib.hasPrefix x.data.toList [35]=false
 pc:bU x ⟨#[32]⟩=wd::ws
 ne: ∀y∈bU x ⟨#[32]⟩,(y.toList== [])=false
 let_: ∀u,Qo zP 160 #[.string wd,.int .i64 (ws.length:Int)] u (aK u (.tuple #[.string l,.bool true]))
 ll:l.size=ws.length
 n:ws.length<=100
 hz: ∀y∈wd::ws,y.size<=1000
 num: ∀k,k<ws.length->l.data.toList.getD k 0≠116->eG (ws.getD k ByteArray.empty)=true
structure ed where
 word:ByteArray
 nv:Qn
 tv:Qn
def ed.cells(c:ed):List Qn:= [.string c.word,c.nv,c.tv]
def ed.blk(c:ed)(j:Nat):Prop:=aD c.nv j\/aD c.tv j
def ed.at_(w:Qm)(c:ed)(s:cK):Prop:=c.word=s.word/\aE w c.nv s.nums/\bq w c.tv s.text
section
variable{w w':Qm}{F:Nat->Prop}{v:Qn}{c:ed}{s:cK}{l:List ByteArray}
def bq.ch_(s:bq w v l)(h:Ch F w w')(t: ∀k,aD v k-> ¬F k):bq w' v l:=by
 obtain⟨a,c,rfl,i,m,n⟩:=s;refine⟨a,c,rfl,i,m,λd=>?_⟩;obtain⟨g,o,rfl,f,p⟩:=n d;have q: ¬F g:=t g ⟨λe=>d (NI e),rfl⟩;refine⟨g,o,rfl,No f h.size,λj r=>?_⟩;rw[bT h f q];exact p j r
def DS{k:Nat}(g:bq w v l)(d:aD v k):k<w.heap.size:=by
 obtain⟨a,c,rfl,-,-,f⟩:=g;cases a with
 |none=>exact d.elim
 |some a=>
  obtain⟨b,o,e,h,-⟩:=f (λe=>d.1 (by rw[e];rfl));injection e with e
  have:=d.2;rw[e] at this;show k<_;have i:b=k:=this;omega
def ed.at_.ch(d:c.at_ w s)(e:Ch F w w')(f: ∀k,c.blk k-> ¬F k):c.at_ w' s:=⟨d.1,d.2.1.ch_ e λk a=>f k (.inl a),d.2.2.ch_ e λk a=>f k (.inr a)⟩
def ed.at_.lt(a:c.at_ w s){k:Nat}(d:c.blk k):k<w.heap.size:=d.elim (iV a.2.1) (DS a.2.2)
end
structure rL(w:Qm)(B:Nat)(v:Qn)(S:Nat->cK)(k:Nat)(Cs:List ed):Prop where
 len:Cs.length=k
 own:w.ownsRow B 138 3 v k (Cs.flatMap ed.cells)
 at_: ∀i (c:ed),Cs[i]?=some c->c.at_ w (S i)
 nb: ∀c:ed,c∈Cs-> ∀j,c.blk j->v.ownBlock≠some j
def rL.push{wr o u p:Qm}{B k:Nat}{v q:Qn}{S:Nat->cK}{r:List ed}{c:ed}(g:rL wr B v S k r)(x:Qr wr.heap.size wr o)(s:c.at_ o (S k))(n: ∀j,c.blk j->wr.heap.size<=j)(t:Qr o.heap.size o u)
 (D:p.ownsRow B 138 3 q (k+1) (r.flatMap ed.cells++c.cells)) (m:u.grownBy p v.ownBlock) (d:fM u v q):rL p B q S (k+1) (r++ [c]):=by
 have w:Ch (λj=>v.ownBlock=some j) u p:=⟨m.os,m.tape,m.output,m.size,λk d n=>m.block k d λe=>n e.symm⟩;have E:=x.size;have F:=t.size;refine⟨by rw[Nw,g.len];rfl,by rw[NK];simpa using D,λi c' a=>?_,λc' h j f e=>?_⟩
 ·rw[List.getElem?_append] at a
  split at a
  ·have l:=g.at_ i c' a
   exact(l.ch (Ch.fresh (ai x t)) λj f e=>by have:=l.lt f;omega).ch w λj f e=>g.nb c' (NO a) j f e
  ·rename_i y
   rw[g.len] at a y
   have A:i-k=0:=by
    rcases Nat.eq_zero_or_pos (i-k) with g|g
    ·exact g
    ·rw[OW zu] at a;cases a
   rw[A] at a;injection a with a
   subst a;obtain rfl:i=k:=zo
   exact(s.ch (Ch.fresh t) λj f e=>by have:=s.lt f;omega).ch w λj f e=>by
    have l:=n j f;have C:=(ar g.own e).2.1;omega
 ·rcases Og.1 h with h|h
  ·obtain⟨i,a⟩:=List.mem_iff_getElem?.1 h
   have l:=(g.at_ i c' a).lt f;rcases d with d|d
   ·rw[d] at e;exact g.nb c' h j f e
   ·have:=d j e;omega
  ·obtain rfl:=Nz.1 h
   have l:=n j f;have C:=s.lt f;rcases d with d|d
   ·rw[d] at e
    have:=(ar g.own e).2.1;omega
   ·have:=d j e;omega
def LL(w:Qm)(S:Nat->cK)(n:Nat)(x:Qq)(w':Qm):Prop:= ∃v a,x= .returned (.tuple #[v,(),()])/\rL w' w.heap.size v S n a/\Qr w.heap.size w w'
def GY{u c:Qm}{B n k:Nat}{e:Qp}{v:Qn}{f:List Qn}(g:u.ownsRow B e k v n f)(a:u.grownBy c v.ownBlock)(h:B<=u.heap.size):Qr B u c:=
 ⟨a.os,a.tape,a.output,a.size,λj d=>a.block j (No d h) λe=>by have:=(ar g e.symm).1;omega⟩
def Ai{w:Qm}{m:Int}{v:Qn}{A:List ByteArray}(E L:Nat->ByteArray)(B:Nat->List ByteArray)(d4:Qs (w.cell? ⟨0,0,none⟩=some (.int .i64 m)))(d5:Qs (0<w.heap.size))(d6:bq w v A)(d7:A.length<=100)(d8:Qs (∀k x,A[k]?=some x->js x (E k) (L k) (B k))):
 Qo zP 52 #[v,(2:Int)] w (LL w (λk=>xD (E k) (L k) (B k)) A.length):=by
 obtain⟨S,Y⟩:=zy (λk=>xD (E k) (L k) (B k):Nat->cK);rw[<-Y];obtain⟨a,d9,rfl,-,-,Z⟩:=d6;have b2:=zh Z;obtain⟨F,H⟩:=zy (A.length:Nat);rw[<-H] at d7⊢;obtain⟨b3,b4,b5,b6,b7⟩:=info_parts Ah;clear Z;go_enter func52,ntmps52;go_wp2_with fail;go_loopw [7,15] (λo i wr=> ∃(k:Nat),k<=F/\i= .int .i64 k/\ ∃M,Qs (rL wr w.heap.size o S k M)/\Qs (Qr w.heap.size w wr)) (λ_ i _=>F-(intOf i).toNat)
 case atStart=>exact⟨0,Nx _,rfl,[],zh ⟨rfl,World.ownsRow_nil _ _ _ _,(λi c C=>by cases C),(λc C=>by cases C)⟩,zh zr⟩
 case round=>
  obtain⟨k,e0,rfl,M,I,g⟩:=hrel;obtain⟨e1,e2,rfl⟩:=az I.own;by_cases a0:k<F
  ·obtain⟨b,o,rfl,a1,a2⟩:=b2 (by intro C;have:=H.out;simp[C] at this;omega)
   have c0:=(g.cell (p:=⟨b,o+k,none⟩) a1).trans (a2 k (by have:=H.out;omega));have a3:k<A.length:=by rw[<-H];exact a0
   obtain⟨N,O⟩:=zx (A.getD k ByteArray.empty);have a4:A[k]?=some N:=by rw[O,Nr,Np a3];rfl
   rw[<-O] at c0;have f:=zh (d8 k N a4);have b8:=No a1 g.size;have b9:=zh (rG (w:=wr) N f.sz f.pre ((g.cell (p:=⟨0,0,none⟩) d5).trans d4) f.ne);obtain⟨J,a5⟩:=zx ((B k).length+1:Nat);have c1:=zh a5;have e3:1<=J:=zo;clear a2 O a3 a4 a5;go_wp2_with fail;refine b9.mono ?_;rw[f.pc];rintro x e4 ⟨e5,e6,rfl,c2,P,a6⟩;rw[show(E k::B k).length=J from c1.symm] at P⊢;have c3:=zh P;have B2:=zh a6;have c4:decide (J=0)=false:=NQ zo;have c5:((J:Int)==0)=false:=by simp;omega
   clear c2 P a6 c0 b8;go_wp2_with fail;refine(DQ c3 f.let_ f.ll f.n f.hz f.num).mono ?_;rintro x K ⟨Q,R,rfl,T,U,a7,c6⟩;have a8:xD (E k) (L k) (B k)=S k:=by rw[Y]
   rw[a8] at T U⊢;obtain⟨d,V⟩:=zx ((S k).word);rw[<-V];have c7:=zh (show ed.at_ K ⟨d,Q,R⟩ (S k) from⟨V,T,U⟩);have D:=ai B2 c6;have c8:=zh (show∀j,ed.blk ⟨d,Q,R⟩ j->wr.heap.size<=j from λj c9=>Nq B2.size (c9.elim (fC a7.1) (fC a7.2)));obtain⟨h,q,r,rfl⟩: ∃a n c,Q= .slice a n c:=by obtain⟨a,c,e,-⟩:=T;exact⟨a,_,c,e⟩
   obtain⟨s,t,u,rfl⟩: ∃a n c,R= .slice a n c:=by obtain⟨a,c,e,-⟩:=U;exact⟨a,_,c,e⟩
   have e7:=zi ((1000:Int)<=(k:Int));have a9:=aS (aS I.own D) (ai (ak K (.cells #[d,.slice h q r,.slice s t u] 138)) (ak _ (.cells #[d,.slice h q r,.slice s t u] 138)));clear c4 c5 a8 V;go_wp2_with (at_builtin;refine bb (enc:=ed.cells) rfl _ _ 127 rfl w.heap.size 138 b3 _ 64 underlying127 b4 b5 b6 b7 rfl zd _ _ k _ [⟨d,.slice h q r,.slice s t u⟩] rfl a9 rfl (bC 3 (c:=1) (l:= [ed.mk d (.slice h q r) (.slice s t u)]) (ag zm) rfl ⟨Nt 1,zd⟩) (λ_=>rfl) (λz d0 y b0=>by obtain rfl:=Nz.1 d0;simp only[ed.cells,NL,NJ,Ou] at b0;rcases b0 with rfl|rfl|rfl<;>rfl) (by show(k+1)*64<140737488355328;omega) zd ?qc3 ?_)
   case qc3=>have:=D.size;have:=g.size;simp;omega
   intro e8 e9 W X b1;have d1:=zh (I.push D c7 c8 (ai (ak K (.cells #[d,.slice h q r,.slice s t u] 138)) (ak _ (.cells #[d,.slice h q r,.slice s t u] 138))) (by simpa using W) X b1);have d2:=zh (GY a9 X (by have:=D.size;have:=g.size;simp;omega));have d3:=g.trans ((ai D (ai (ak K (.cells #[d,.slice h q r,.slice s t u] 138)) (ak _ (.cells #[d,.slice h q r,.slice s t u] 138)))).mono g.size);obtain⟨f0,f1,rfl⟩:=az W;clear W X b1;go_wp2_with fail;go_roundw
   case rel=>exact⟨k+1,zo,by go_num,_,d1,(d3.trans d2)⟩
   case measure=>simp[intOf];omega
  ·obtain rfl:k=F:=zo
   clear a0;go_wp2_with fail;refine NG (results_tmp3 rfl _ _ _) rfl ?_;exact⟨_,M,rfl,I,g⟩
section
variable{w w':Qm}{B q:Nat}{r:List Qn}{T:Qp}{S S2:aM}{b:SB}{σ σ1:au}{v:Qn}{wd nm:ByteArray}{t x k:Int}
def MG(w:Qm)(q:Nat)(r:List Qn)(T:Qp)(S:aM)(b:SB)(S1:aM)(σ1:au)(v:Qn)(x:Qq)(w':Qm):Prop:=
 x= .returned v/\ ∃a,bZ w q r T S b w' S1 a σ1
def GZ(Y:Qs (cl B w))(H:Qs (bB w q r T S b σ))(d0:Qs (∀j,EF w q S b j->B<=j))(d1:cg w v ⟨wd,[t,x],[nm]⟩)(d2:Qs (aQ t/\aQ x/\aQ k))(d3:Qs ((Lib.join (([k].map gF).map (·.data.toList)) [32]).length<=100000))
 (d4:Qs (∀f va vc,bZ w q r T S b f S b σ->aB 3 ba.cells f (.slice va (1:Nat) vc) [⟨nm,t,x⟩]->(∀j,aD (.slice va (1:Nat) vc) j-> ¬EF f q S b j)->Qo zP 34 #[.pointer (some ⟨q,0,none⟩),.slice va (1:Nat) vc] f (jo f q r T S b S2 σ1 (.int .i64 k)))):
 Qo zP 104 #[.pointer (some ⟨q,0,none⟩),v] w (MG w q r T S b S2 σ1 (.string (dN [k]))):=by
 obtain⟨d5,d6,rfl,I,Z⟩:=d1;obtain⟨d7,J,rfl,-,a0,K⟩:=I;obtain⟨d8,L,rfl,-,a1,M⟩:=Z;obtain⟨d,e,rfl,s,u⟩:=K zm;obtain⟨h,i,rfl,N,O⟩:=M zm;have n0:w.cell? ⟨d,e,none⟩=some (.int .i64 t):=u 0 zm;have n1:w.cell? ⟨d,e+1,none⟩=some (.int .i64 x):=u 1 zm;have m:w.cell? ⟨h,i,none⟩=some (.string nm):=O 0 zm;have A:=zh (And.intro n0 (And.intro n1 m));clear K M u O a0 a1 n0 n1 m;dsimp only[List.length_cons,List.length_nil,Nat.zero_add,Nat.reduceAdd];obtain⟨a2,a3,a4,a5,a6⟩:=info_parts ru;go_enter func104,ntmps104;go_wp2_with fail;refine NM 2 ?_;rw[NF];obtain⟨a7,C⟩:=zx w.heap.size;obtain⟨g,n⟩:=zx (w.alloc (.cells #[.string wd,.slice (some ⟨d,e,none⟩) 2 J,.slice (some ⟨h,i,none⟩) 1 L] 138):Qm);have B0:=zh (show Qr w.heap.size w g by rw[n];exact ak _ _);have P:=zh (show g.heap[a7]?=some (.cells #[.string wd,.slice (some ⟨d,e,none⟩) 2 J,.slice (some ⟨h,i,none⟩) 1 L] 138) by rw[n,C];exact Nu _ _);rw[<-n,<-C];clear n C;obtain⟨c0,a8,a9⟩:=aW P;have n0:=(B0.cell (p:=⟨d,e,none⟩) s).trans A.1;have n1:=(B0.cell (p:=⟨d,e+1,none⟩) s).trans A.2.1;have m:=(B0.cell (p:=⟨h,i,none⟩) N).trans A.2.2;have b0:=aa P;have b1:=No s B0.size;have b2:=No N B0.size;go_wp2_with fail;have b3:=zh (show∀z∈ [ba.mk nm t x],∀y∈ba.cells z,y.oneCell'=true by intro z D y Q;obtain rfl:=Nz.1 D;simp only[ba.cells,NL,NJ,Ou] at Q;rcases Q with rfl|rfl|rfl<;>rfl);have b4:IntKind.i64.wrap 0=0:=rfl;have b5:IntKind.i64.wrap 1=1:=rfl;refine aC (S:=(iz g)) 19 zk ?_ (λa=>?_)
 ·(first|exact ax _|exact aj _ _ a o|exact aj _ _ a (ak _ _)|exact a)
 refine zT 0 ?_;refine zT 1 ?_;refine zT 2 ?_;refine zT 3 ?_;refine zT 4 ?_;refine zT 5 ?_;refine zT 6 ?_;refine zT 7 ?_;refine zT 8 ?_;refine zT 9 ?_;refine zT 10 ?_;refine zT 11 ?_;refine zT 12 ?_;refine zT 13 ?_;refine zT 14 ?_;refine zT 15 ?_;refine zO 16 λb6 E=>?_
 go_simp
 skip
 refine zE E (by first|exact ax _|exact aj _ _ a o|exact aj _ _ a (ak _ _)|exact a) λa=>?_
 refine zO 17 λb6 E=>?_
 rw[NH (by simp[Region.wanted])];refine bX (enc:=ba.cells) _ _ 29 rfl g.heap.size 42 a2 _ 32 underlying29 a3 a4 a5 a6 rfl zd _ _ 0 [] [ba.mk nm t x] rfl (World.ownsRow_nil _ _ _ _) rfl (bC 3 (c:=1) (l:= [ba.mk nm t x]) (ag zm) rfl ⟨Nt 1,zd⟩) (λ_=>rfl) b3 (by show(0+1)*32<140737488355328;decide) zd a.1.size (λd9 w7 F R b7=>?_);have o:=eU R;have b8:=zh F;obtain⟨b9,c1,rfl⟩:=az F;clear F R b7;refine zE E (by first|exact ax _|exact aj _ _ a o|exact aj _ _ a (ak _ _)|exact a) λa=>?_
 refine zT 18 ?_;refine zH ?_;have U:=zh (aB.own (l:= [ba.mk nm t x]) (enc:=ba.cells) (k:=3) (show w7.ownsRow g.heap.size 42 3 _ [ba.mk nm t x].length ([ba.mk nm t x].flatMap ba.cells) from by have:=b8.out;simpa using this));have V:=zh ((bZ.refl H B0).fresh a.1);have c2:=zh (ai B0 a.1);clear c0 a8 a9 n0 n1 m b0 b1 b2 b4 b5 a o;go_wp2_with fail;rw[NF];go_wp2_with fail;refine(d4 w7 b9 c1 V U.1 (λj c3 c4=>?_)).mono ?_
 ·have I:=fC U.2 c3
  have:=H.lt (H.ef_below c2 c4);have:=B0.size;omega
 rintro y e0 ⟨rfl,c5,c6,W⟩;have X:=zh (V.trans W);have c7:=zh (X.ch.below d0 Y.1);clear c6 W;go_wp2_with fail;refine(fc (B:=B) (l:= [k]) ((Y.step c7).fresh (ak _ _)) (eC zm rfl (by intro z D;obtain rfl:=Nz.1 D;exact d2.2.2) ⟨Nt 1,zd⟩) (by show 1<=10;decide) (by show 0<1;decide) d3).mono ?_;rintro y e1 ⟨rfl,c8⟩;have c9:=zh (X.fresh (ai (ak _ _) c8));go_wp2_with fail;go_ret;exact⟨rfl,c5,c9⟩
end
def LM(w:Qm)(v u:Qn)(e:Qq)(w':Qm):Prop:=e= .returned (.tuple #[v,u])/\Qs (Qr w.heap.size w w')
def Ha(A:aF)(w:Qm)(a:(A.hi==wrap64 A.lo/9223372036854775808)=true):
 Qo zP 166 #[A.val] w (LM w (.int .i64 (wrap64 A.lo)) (.bool false)):=by
 simp only[aF.val];go_enter func166,ntmps166;go_wp2;go_ret2;exact⟨rfl,aL zr zl⟩
section
variable{w w':Qm}{B q:Nat}{v:Qn}{wd nm:ByteArray}{f g KK:Int}{rc:ay}
def KO(a:Int)(rc:ay):ByteArray:=dN [0,a]++(⟨#[32]⟩++dN [rc.start]++⟨#[58]⟩++dN [rc.agg.c]++⟨#[58]⟩++dN [wrap64 rc.agg.lo])
def gb(l:List Int):Prop:=(∀x∈l,aQ x)/\(Lib.join ((l.map gF).map (·.data.toList)) [32]).length<=100000
def uM(a b:ByteArray){m n:Nat}(c:a.size<=m)(d:b.size<=n)(f:m+n<=1000000000): ∃e:ByteArray,e.size<=m+n/\(∀w,(Op.stringOp .add a b).run zP w= .ok (.string e) w)/\e=a++b:=
 ⟨a++b,by rw[Oh];omega,λw=>run_string_add_sum w a b zo,rfl⟩
def kK{l:List Int}(a:gb l):(dN l).size<=100000:=by
 have:=a.2;show(List.toArray _).size<=_;simpa using this
def Hb(g1:Qs (cl B w))(k3:cg w v ⟨wd,[f,g],[nm]⟩)(g2:Qs (∀s,Qr w.heap.size w s->Qo zP 165 #[q,nm,f,g] s (qM s KK [rc])))
 (g3:(rc.agg.hi==wrap64 rc.agg.lo/9223372036854775808)=true) (b8:Qs (gb [0,KK])) (b9:Qs (gb [rc.start])) (c1:Qs (gb [rc.agg.c])) (g4:Qs (gb [wrap64 rc.agg.lo])):
 Qo zP 105 #[q,v] w (aK w (.string (KO KK rc))):=by
 have g5:=zh g3;obtain⟨k4,k5,rfl,g6,g7⟩:=k3;obtain⟨k6,c2,rfl,-,g8,c3⟩:=g6;obtain⟨k7,c4,rfl,-,g9,c5⟩:=g7;obtain⟨M,N,rfl,a2,a3⟩:=c3 zm;obtain⟨V,W,rfl,c6,c7⟩:=c5 zm;have n0:w.cell? ⟨M,N,none⟩=some (.int .i64 f):=a3 0 zm;have n1:w.cell? ⟨M,N+1,none⟩=some (.int .i64 g):=a3 1 zm;have X:w.cell? ⟨V,W,none⟩=some (.string nm):=c7 0 zm;have a4:=zh (And.intro n0 (And.intro n1 X));clear g3 c3 c5 a3 c7 g8 g9 n0 n1 X;dsimp only[List.length_cons,List.length_nil,Nat.zero_add,Nat.reduceAdd];go_enter func105,ntmps105;go_wp2_with fail;obtain⟨h0,a5⟩:=zx w.heap.size;obtain⟨t,Y⟩:=zx (w.alloc (.cells #[wd,.slice (some ⟨M,N,none⟩) 2 c2,.slice (some ⟨V,W,none⟩) 1 c4] 138):Qm);have B0:=zh (show Qr w.heap.size w t by rw[Y];exact ak _ _);have c8:=zh (show t.heap[h0]?=some (.cells #[wd,.slice (some ⟨M,N,none⟩) 2 c2,.slice (some ⟨V,W,none⟩) 1 c4] 138) by rw[Y,a5];exact Nu _ _);rw[<-Y,<-a5];clear Y a5;obtain⟨c0,h1,h2⟩:=aW c8;have n0:=(B0.cell (p:=⟨M,N,none⟩) a2).trans a4.1;have n1:=(B0.cell (p:=⟨M,N+1,none⟩) a2).trans a4.2.1;have X:=(B0.cell (p:=⟨V,W,none⟩) c6).trans a4.2.2;have h3:=aa c8;have h4:=No a2 B0.size;have h5:=No c6 B0.size;refine aC (S:=(iz t)) 22 zk ?_ (λa=>?_)
 ·(first|exact ax _|exact aj _ _ a k|exact aj _ _ a ze|exact a|exact bP (ai c ze)|exact bP (ao (ao a.1 (by first|exact Nt _|exact c.size)) (by first|exact Nt _|exact c.size)))
 refine zT 0 ?_;refine zT 1 ?_;refine zT 2 ?_;refine zT 3 ?_;refine zT 4 ?_;refine zT 5 ?_;refine zT 6 ?_;refine zT 7 ?_;refine zT 8 ?_;refine zT 9 ?_;refine zT 10 ?_;refine zT 11 ?_;refine zT 12 ?_;refine zT 13 ?_;refine zT 14 ?_;refine fV (i:=15) (j:=19) rfl rfl zk (λC d=>?_) (λC d=>?_)
 focus
  go_simp;refine(g2 _ (B0.trans (a.1.mono B0.size))).mono ?_;rintro y O ⟨u,rfl,T,a6,k⟩;obtain⟨F,H,rfl,-⟩:=id T;have c:=ai a.1 k;first|(have r:Qs (O.heap[t.heap.size]?=some (.cells #[(),z0] 247)):=(k.block _ (aa (Nu _ _))).trans (Nu _ _);have z1:=(bE r).1;have z2:=(bE r).2;have z3:=ad (o:=0) r;have z4:=ad (o:=1) r;have z5:=aa r)|skip
  refine zE d (by first|exact ax _|exact aj _ _ a k|exact aj _ _ a ze|exact a|exact bP (ai c ze)|exact bP (ao (ao a.1 (by first|exact Nt _|exact c.size)) (by first|exact Nt _|exact c.size))) λa=>?_
  refine zT 16 ?_;refine zT 17 ?_;refine zT 18 ?_;refine zO 19 λC d=>?_
  go_simp
  skip
  refine zE d (by first|exact ax _|exact aj _ _ a k|exact aj _ _ a ze|exact a|exact bP (ai c ze)|exact bP (ao (ao a.1 (by first|exact Nt _|exact c.size)) (by first|exact Nt _|exact c.size))) λa=>?_
  refine zO 20 λC d=>?_
  go_simp
  skip
  refine zE d (by first|exact ax _|exact aj _ _ a k|exact aj _ _ a ze|exact a|exact bP (ai c ze)|exact bP (ao (ao a.1 (by first|exact Nt _|exact c.size)) (by first|exact Nt _|exact c.size))) λa=>?_
  refine zT 21 ?_;refine zH ?_
 rotate_left
 focus
  go_simp
  skip
  refine zE d (by first|exact ax _|exact aj _ _ a k|exact aj _ _ a ze|exact a|exact bP (ai c ze)|exact bP (ao (ao a.1 (by first|exact Nt _|exact c.size)) (by first|exact Nt _|exact c.size))) λa=>?_
  refine zO 15 λC d=>?_
  go_simp;refine(g2 _ (B0.trans (a.1.mono B0.size))).mono ?_;rintro y O ⟨u,rfl,T,a6,k⟩;obtain⟨F,H,rfl,-⟩:=id T;have c:=ai a.1 k;first|(have r:Qs (O.heap[t.heap.size]?=some (.cells #[(),z0] 247)):=(k.block _ (aa (Nu _ _))).trans (Nu _ _);have z1:=(bE r).1;have z2:=(bE r).2;have z3:=ad (o:=0) r;have z4:=ad (o:=1) r;have z5:=aa r)|skip
  refine zE d (by first|exact ax _|exact aj _ _ a k|exact aj _ _ a ze|exact a|exact bP (ai c ze)|exact bP (ao (ao a.1 (by first|exact Nt _|exact c.size)) (by first|exact Nt _|exact c.size))) λa=>?_
  refine zT 16 ?_;refine zT 17 ?_;refine zT 18 ?_;refine zO 20 λC d=>?_
  go_simp
  skip
  refine zE d (by first|exact ax _|exact aj _ _ a k|exact aj _ _ a ze|exact a|exact bP (ai c ze)|exact bP (ao (ao a.1 (by first|exact Nt _|exact c.size)) (by first|exact Nt _|exact c.size))) λa=>?_
  refine zT 21 ?_;refine zH ?_
 rotate_left
 all_goals
  first
   |(obtain⟨a7,I⟩:=zx t.heap.size
     obtain⟨J,A⟩:=zx ((O.setCell ⟨t.heap.size,0,none⟩ (.int .i64 KK)).setCell ⟨t.heap.size,1,none⟩ (.slice F 1 H):Qm);have Z:=zh (show J.heap[a7]?=some (.cells #[KK,.slice F 1 H] 247) by rw[A,I,al (al r _) _];rfl)
     have c9:=zh (show aB 7 ay.cells J (.slice F 1 H) [rc] from aB.step T (by rw[A];simp) λj h6 k8=>by
      have h7:=fC a6 h6;have k9:t.heap.size<j:=No (aa (Nu t (.cells #[(),z0] 247))) h7;rw[A,af _ (by show j≠t.heap.size;omega),af _ (by show j≠t.heap.size;omega)])
     have B2:=zh (show Qr w.heap.size w J by rw[A];exact ao (ao (ai B0 c) B0.size) B0.size);rw[<-A,<-I];clear A I z1 z2 z3 z4 z5 r a6)
   |(obtain⟨a7,I⟩:=zx O.heap.size
     obtain⟨J,A⟩:=zx (O.alloc (.cells #[KK,.slice F 1 H] 247):Qm);have Z:=zh (show J.heap[a7]?=some (.cells #[KK,.slice F 1 H] 247) by rw[A,I];exact Nu _ _);have c9:=zh (show aB 7 ay.cells J (.slice F 1 H) [rc] by rw[A];exact T.below ze);have B2:=zh (show Qr w.heap.size w J by rw[A];exact ai B0 (ai c ze));rw[<-A,<-I];clear A I)
  clear a c0 h1 h2 n0 n1 X h3 h4 h5;obtain⟨a8,a9⟩:=bE Z;have b0:=aa Z;have h8:=g1.fresh B2;have l0:=zh B2.size;have h9:Qs (∀z∈ [0,KK],aQ z):=b8.1;go_wp2_with fail;refine zb (fc (B:=B) (l:= [0,KK]) (h8.fresh ze) (eC zm rfl h9 ⟨Nt 2,zd⟩) (by show 2<=10;decide) (by show 0<2;decide) b8.2) λi0 k=>?_
  have b1:=ai ze k;have d0:=zh (ab Z b1);have i1:=c9.below b1;have i2:=ai B2 b1;clear a8 a9 b0;obtain⟨a8,a9⟩:=bE d0;have b0:=aa d0;obtain⟨d1,b2⟩:=zy (dN [0,KK]);rw[<-b2];go_wp2_with fail;refine NM 2 ?_;rw[NF];obtain⟨l1,l2,e,i3,E⟩:=i1.elem (λ_=>rfl) (j:=0) (x:=rc) rfl;subst e;have d2:=E 0 _ rfl;have d3:=E 1 _ rfl;have d4:=E 2 _ rfl;have d5:=E 3 _ rfl;have d6:=E 4 _ rfl;have d7:=E 5 _ rfl;have d8:=E 6 _ rfl;clear E;simp only[Ox,NR] at d2 d3 d4 d5 d6 d7 d8;go_wp2_with fail;refine(Ha rc.agg _ g5).mono ?_;rintro y K ⟨rfl,i4⟩;obtain⟨P,d9⟩:=bl i4;obtain⟨e0,e1⟩:=zx i0.heap.size;rw[<-e1] at P⊢;have l3:=zh P;have b3:=ai i2 d9;have i5:=aa P;have i6:K.cell? ⟨e0,1,none⟩=some (.int .i64 rc.start):=by rw[NA K _ _ _ _ _ P];rfl
  have i7:K.cell? ⟨e0,2,none⟩=some (.int .i64 rc.agg.c):=by rw[NA K _ _ _ _ _ P];rfl
  obtain⟨a0,a1⟩:=zy (wrap64 rc.agg.lo);rw[<-a1];obtain⟨TB,b4⟩:=zx (dN [rc.start]);obtain⟨e2,b5⟩:=zx (dN [rc.agg.c]);obtain⟨e3,b6⟩:=zx (dN [a0]);have Q:=zh (And.intro b4 (And.intro b5 b6));have e4:d1.size<=100000:=by rw[b2];exact kK b8
  have e5:TB.size<=100000:=by rw[b4];exact kK b9
  have e6:e2.size<=100000:=by rw[b5];exact kK c1
  have e7:e3.size<=100000:=by rw[b6,a1];exact kK g4
  have e8:=zh (show gb [a0] by rw[a1];exact g4);have b7:=zh (λ(u:Qm) (L:Qr K.heap.size K u)=>g1.fresh (b3.trans (L.mono b3.size)));clear P d9 e1 d2 d3 d4 d5 d6 d7 d8 a8 a9 b0 i3 b4 b5 b6;go_wp2_with fail;obtain⟨i8,e9,i9,f0⟩:=uM (⟨#[32]⟩:ByteArray) TB (m:=1) (n:=100000) zd e5 zd;obtain⟨j0,f1,j1,f2⟩:=uM i8 (⟨#[58]⟩:ByteArray) (n:=1) e9 zd zd;obtain⟨j2,f3,j3,f4⟩:=uM j0 e2 f1 e6 zd;obtain⟨j4,f5,j5,f6⟩:=uM j2 (⟨#[58]⟩:ByteArray) (n:=1) f3 zd zd;obtain⟨j6,f7,j7,f8⟩:=uM j4 e3 f5 e7 zd;obtain⟨j8,j9,k0,f9⟩:=uM d1 j6 e4 f7 zd;have k1:=zh (show j8=_ by rw[f9,f8,f6,f4,f2,f0]);clear e9 f1 f3 f5 f7 j9 f0 f2 f4 f6 f8 f9;refine eE (R:=kM) (S:=(iz K)) 19 (br.val ?_::br.val ?_::br.val ?_::(Ao [rc.start])::br.val ?_::br.val ?_::br.val ?_::br.val ?_::br.val ?_::br.val ?_::(Ao [rc.agg.c])::br.val ?_::br.val ?_::br.val ?_::br.val ?_::(Ao [a0])::br.val ?_::br.val ?_::br.val ?_:: []) zk zk rfl (aj) zq ?_;rotate_right
  iterate 3
   refine zV ?_
  refine aT zk rfl rfl ?_ λl4=>?_
  ·intro s h D C d;have U:=h.2;go_simp;exact d.out _ _ _ zg (eC rfl rfl b9.1 ⟨Nt 1,zd⟩) ze
  simp only[zS];refine aw zk rfl rfl ?_ ?_
  ·intro s h D C d;have U:=h.2;go_simp;refine zb (fc (B:=B) (l:= [rc.start]) (b7 s h.1) (D.out 3 zk) (by show 1<=10;decide) (by show 0<1;decide) b9.2) λg0 L=>?_;rw[<-Q.1];exact d.out _ _ zz L
  iterate 5
   refine zV ?_
  refine aT zk rfl rfl ?_ λl5=>?_
  ·intro s h D C d;have U:=h.2;go_simp;exact d.out _ _ _ zg (eC rfl rfl c1.1 ⟨Nt 1,zd⟩) ze
  simp only[zS];refine aw zk rfl rfl ?_ ?_
  ·intro s h D C d;have U:=h.2;go_simp;refine zb (fc (B:=B) (l:= [rc.agg.c]) (b7 s h.1) (D.out 10 zk) (by show 1<=10;decide) (by show 0<1;decide) c1.2) λg0 L=>?_;rw[<-Q.2.1];exact d.out _ _ zz L
  iterate 3
   refine zV ?_
  refine aT zk rfl rfl ?_ λl6=>?_
  ·intro s h D C d;have U:=h.2;go_simp;exact d.out _ _ _ zg (eC rfl rfl e8.1 ⟨Nt 1,zd⟩) ze
  simp only[zS];refine aw zk rfl rfl ?_ ?_
  ·intro s h D C d;have U:=h.2;go_simp;refine zb (fc (B:=B) (l:= [a0]) (b7 s h.1) (D.out 15 zk) (by show 1<=10;decide) (by show 0<1;decide) e8.2) λg0 L=>?_;rw[<-Q.2.2];exact d.out _ _ zz L
  iterate 2
   refine zV ?_
  refine zA λl7 h D=>?_
  have k2:=ai b3 h.1;clear i9 j1 j3 j5 j7 k0 h D e4 e5 e6 e7 i6 i7 i5;go_wp2_with fail;rw[NF];go_wp2_with fail;go_ret;exact⟨by rw[k1,b2,Q.1,Q.2.1,Q.2.2,a1];rfl,k2⟩
end
def DT{w:Qm}{b:Nat}{T:Qp}{s t u v x y A B C D E F H I J K r:Qn}(a c d e f g h i j k l m n o p q:Qn)(L:w.heap[b]?=some (.cells #[s,t,u,v,x,y,A,B,C,D,E,F,H,I,J,K,r] T)):
 ((((((((((((((((w.setCell ⟨b,0,none⟩ a).setCell ⟨b,1,none⟩ c).setCell ⟨b,2,none⟩ d).setCell ⟨b,3,none⟩ e).setCell ⟨b,4,none⟩ f).setCell ⟨b,5,none⟩ g).setCell ⟨b,6,none⟩ h).setCell ⟨b,7,none⟩ i).setCell ⟨b,8,none⟩ j).setCell ⟨b,9,none⟩ k).setCell ⟨b,10,none⟩ l).setCell ⟨b,11,none⟩ m).setCell ⟨b,12,none⟩ n).setCell ⟨b,13,none⟩ o).setCell ⟨b,14,none⟩ p).setCell ⟨b,15,none⟩ q).heap[b]?=some (.cells #[a,c,d,e,f,g,h,i,j,k,l,m,n,o,p,q,r] T):=by
 rw[al (al (al (al (al (al (al (al (al (al (al (al (al (al (al (al L a) c) d) e) f) g) h) i) j) k) l) m) n) o) p) q];simp only[NN,Om,Oe]
section
variable{w w' w1:Qm}{B q e dp:Nat}{r r' rest:List Qn}{T T':Qp}{S S' S2:aM}{b b':SB}{σ σ1:au}{v:Qn}{n:Int}
def bB.move(c:bB w e r T S b σ)(f:Ch (·=q) w w')(d: ∀k,EF w e S b k->k≠q)(l:w'.heap[q]?=some (.cells (jC S++(([.pointer (some ⟨b.s,0,none⟩),.bool true]:List Qn)++r')).toArray T')):
 bB w' q r' T' S b σ/\ ∀k,EF w' q S b k->EF w e S b k\/k=q:=by
 have h:=λk=>(c.sto.disk.ch_ c.sto.keep f λk a=>d k (.inl (.inr a))).2 k
 have i: ∀k,S.ext q k\/cL w' S.dp k->(S.ext e k\/cL w S.dp k)\/k=q:=λk a=>by
  rcases a with a|a
  ·rcases a with a|a
   ·exact .inr a
   ·exact .inl (.inl (.inr a))
  ·exact .inl (.inr ((h k).1 a))
 refine⟨⟨(c.sto.ch f λk a=>d k (.inl a)).copy l λk a=>d k (.inl (a.imp id (h k).1)),c.st.step f.size λk a=>f.block k (c.st.lt a) (d k (.inr a)),λk a j=>?_⟩,λk a=>?_⟩
 ·rcases i k j with g|g
  ·exact c.ap k a g
  ·exact d k (.inr a) g
 ·rcases a with a|a
  ·exact(i k a).imp .inl id
  ·exact .inl (.inr a)
def bB.disk_{c':Nat}{d':DV}(g:bB w e r T S b σ)(h:bg w' S.B S.dp c' d')(a:d'.keep= [])(i:cS S.dp w w'):bZ w e r T S b w' {S with c:=c',d:=d'} b σ:=by
 have f:=g.sto.disk' h a i;exact g.sto' f λk a=>f.ext_ rfl rfl a
structure Hc(d:DV)(cc:Nat)(c:bI)(rf:Int->ay)(N:Int):Prop where
 op:uB d c rf
 sv: ∀(S:aM) (L:List aA),S.c<=cc->S.d=d->S.gen=c.gen->S.id=c.id->S.ps=L->S.V.pure=dm L->L.map aA.key4=c.es.map bj.key->(∀p∈L,p.r=rf p.blk)->dZ S (ob c L) N
def Jq(w:Qm)(q:Nat)(r:List Qn)(T:Qp)(S:aM)(b:SB)(c:bI)(rf:Int->ay)(d:DV)(x:Qq)(w':Qm):Prop:=
 x= .returned (.int .i64 0)/\ ∃(S1 S2:aM) (a:SB) (L:List aA),bZ w q r T S b w' S2 a (ob c L)/\oT S1 (ob c L) S2/\(S1.dp=S.dp/\S1.c<=S.c+31/\S1.d=d/\S1.gen=c.gen/\S1.id=c.id/\S1.ps=L/\S1.bad=0/\S1.V.pure=dm L)/\L.map aA.key4=c.es.map bj.key/\(∀p∈L,p.r=rf p.blk)
def Hd{B:Nat}{m N:Int}{c:bI}{rf:Int->ay}(O:Qs (cl B w))(j6:Qs (w.cell? ⟨0,0,none⟩=some (.int .i64 m)))(e0:Qs (0<B))(H:Qs (bB w q [.pointer (some ⟨S.dp,0,none⟩)] T S b σ))(b8:Qs (∀k,EF w q S b k->B<=k))(e1:DG S.d n)(e2:n<=1000000)(e3:S.c<=100000)(e4:Qs (aE w v []))
 (j7:Qs (ij {S with d:=S.d.cut []} σ n)) (j8:Qs (S.bad=0)) (j9:Qs (σ.room=26)) (e5:Qs (Hc (S.d.cut []).restore (S.c+31) c rf N)):
 Qo zP 108 #[q,v] w (Jq w q [.pointer (some ⟨S.dp,0,none⟩)] T S b c rf (S.d.cut []).restore):=by
 have a6:=zh (And.intro e1 (And.intro e2 e3));obtain⟨va,vc,rfl,-⟩:=id e4;have Y:w.cell? ⟨q,16,none⟩=some (.pointer (some ⟨S.dp,0,none⟩)):=by rw[NA w q _ _ _ _ H.sto.blk];rfl
 have s:=aa H.sto.blk;clear e1 e2 e3;go_enter func108,ntmps108;go_wp2_with fail;refine(tP _ [] H.sto.disk ⟨e4,λ_ _ _ _ _ _ a=>absurd rfl a⟩ (by have:=a6.2.2;omega)).mono ?_;rintro y w1 ⟨rfl,e6,e7⟩;obtain⟨x,Z⟩:=zx ({S with c:=S.c,d:=S.d.cut []}:aM);have a7:=xe a6.1 (by have:=a6.2.1;omega);have E:=zh (show bZ w q [.pointer (some ⟨S.dp,0,none⟩)] T S b w1 x b σ by rw[Z];exact H.disk_ e6 a7.keep e7);have Q:=zh (show x.d=S.d.cut []/\x.dp=S.dp/\x.B=S.B/\x.c=S.c/\x.bad=S.bad by rw[Z];exact⟨rfl,rfl,rfl,rfl,rfl⟩);have e8:=zh (show ij x σ n by rw[Z];exact j7);have e9:=zh a7;clear Y s Z a7;have s:=aa E.at_.sto.blk;go_wp2_with fail;have b9:=E.ch.below b8 O.1;have c1: ∀k,EF w1 q x b k->B<=k:=λk h=>(E.own k h).elim (b8 k) λa=>Nq O.1 a
 have c2:=zh (And.intro b9 c1);clear b9 c1;refine(DD (O.step c2.1) E.at_ c2.2 e8 (by rw[Q.1];exact e9.on) (by rw[Q.2.2.2.2];exact j8) j9).mono ?_;rintro y A ⟨rfl,I,J,f0,f1,c3,c4,f2,c5⟩;obtain⟨F,R⟩:=zy (EF w q S b);have a8: ∀j,x.fr w1 q j->F j\/w.heap.size<=j:=λj K=>by rw[R];exact E.own j (.inl (aM.fr_ext K))
 have c6:=zh (show Ch F w A from(show Ch F w w1 by rw[R];exact E.ch).trans_ f1 a8);have c7:=zh (show∀k,I.fr A q k->F k\/w.heap.size<=k from λk h=>(f0 k h).elim (a8 k) λa=> .inr (Nq E.ch.size a));have a9:I.dp=S.dp:=c4.trans Q.2.1;have f3:=zh (show bg A I.B S.dp I.c (S.d.cut []) by have:=J.disk;rw[c3,Q.1,a9] at this;exact this);have U:=zh (show I.dp=S.dp/\I.c<=S.c+31 from⟨a9,by rw[<-Q.2.2.2.1];exact c5⟩);have Y:A.cell? ⟨q,16,none⟩=some (.pointer (some ⟨S.dp,0,none⟩)):=by rw[NA A q _ _ _ _ J.blk];rfl
 clear c3 c4 f2 c5 a8 a9 s;have s:=aa J.blk;go_wp2_with fail;refine(vi f3).mono ?_;rintro y M ⟨rfl,f4,C⟩;have b0: ¬cL A S.dp q:=by have:=J.nd q (.inl rfl);rw[U.1] at this;exact this
 have c8: ¬cL M S.dp q:=λa=>(C.own q a).elim b0 λa=>by have:=aa J.blk;omega
 have c9: ∀k,cL M S.dp k->F k\/w.heap.size<=k:=λk h=>(C.own k h).elim (λa=>c7 k (.inr (.inl (by rw[U.1];exact a)))) λa=> .inr (Nq c6.size a)
 have b1:=zh (show Ch F w M from c6.trans_ (show Ch (cL A S.dp) A M from⟨C.os,C.tape,C.output,C.size,λk h f5=>C.block k h f5⟩) λj K=>c7 j (.inr (.inl (by rw[U.1];exact K))));have V:=zh ((C.block q (aa J.blk) b0).trans J.blk);have W:=zh (And.intro c8 c9);have Y:M.cell? ⟨q,16,none⟩=some (.pointer (some ⟨S.dp,0,none⟩)):=by rw[NA M q _ _ _ _ V];rfl
 clear b0 c8 c9 s;have s:=aa V;go_wp2_with fail;have b2: ∀k,F k->B<=k:=λk h=>b8 k (by rw[<-R];exact h)
 have a0:Qr B w M:=b1.below b2 O.1;refine(DA (B0:=B) (N:=N) (m:=m) (O.step a0) ((a0.cell (p:=⟨0,0,none⟩) e0).trans j6) (by have:=e0.out;have:=O.1;have:=a0.size;omega) f4 (λk h=>(W.2 k h).elim (b2 k) λa=>Nq O.1 a) e5.op (λS' L f6=>e5.sv S' L (by rw[f6];exact U.2))).mono ?_;rintro y P ⟨e,r,f,X,L,rfl,a1,d0,D,d1,f7,d2,d3⟩;have f8:=zh (show Ch F w P from b1.trans_ d2 W.2);have a2:=zh ((d2.block q (aa V) W.1).trans V);have d4:=zh (show∀k,EF P e f X k->k≠q/\(F k\/w.heap.size<=k) from λk h=>⟨λf9=>(d3 k h).elim (λa=>W.1 (by rw[<-f9];exact a)) λa=>by have:=aa V;omega,(d3 k h).elim (W.2 k) λa=> .inr (Nq b1.size a)⟩);obtain⟨d5,b3⟩: ∃t,rl f.lg= .pointer (some ⟨t,0,none⟩):=by obtain⟨k0,k1,k2,k3,g0,k4,g1,-⟩:=d0;rw[g1];exact⟨g0,rfl⟩
 have g2:=zh b3;have a3:=zh (show oT r (ob c L) f/\(r.dp=S.dp/\r.c<=S.c+31/\r.d=(S.d.cut []).restore/\r.gen=c.gen/\r.id=c.id/\r.ps=L/\r.bad=0/\r.V.pure=dm L)/\L.map aA.key4=c.es.map bj.key/\(∀p∈L,p.r=rf p.blk) from⟨d0,⟨D.1,by rw[D.2.2.1];exact U.2,D.2.2.2.1,D.2.2.2.2.1,D.2.2.2.2.2.1,D.2.2.2.2.2.2.1,D.2.2.2.2.2.2.2.2.1,D.2.2.2.2.2.2.2.2.2⟩,d1,f7⟩);clear b2 a0 d1 Y s;obtain⟨g3,g4,g5,g6,g7,g8,g9,h0,h1,h2,h3,h4,d6,h5⟩:=a1.sto.cells;obtain⟨h6,h7⟩:=a1.ecells;rw[b3] at d6;have h8:=aa a1.sto.blk;have s:=aa a2;have g:=λo=>ad (o:=o) a2
 have l: ∀(i:Nat) (u:Qn),(jC I++(([.pointer (some ⟨b.s,0,none⟩),.bool false]:List Qn)++ [.pointer (some ⟨S.dp,0,none⟩)]))[i]?=some u->P.cell? ⟨q,i,none⟩=some u:=λi u h9=>by rw[NA P q _ _ _ _ a2];simpa using h9
 have i0:=l 0 _ rfl;have i1:=l 1 _ rfl;have i2:=l 2 _ rfl;have i3:=l 3 _ rfl;have i4:=l 4 _ rfl;have i5:=l 5 _ rfl;have i6:=l 6 _ rfl;have i7:=l 7 _ rfl;have i8:=l 8 _ rfl;have i9:=l 9 _ rfl;have j0:=l 10 _ rfl;have j1:=l 11 _ rfl;have j2:=l 12 _ rfl;have j3:=l 13 _ rfl;have j4:=l 14 _ rfl;have j5:=l 15 _ rfl;clear l b3;go_wp2_with fail;obtain⟨a4,a5⟩:=zx (((((((((((((((((P).setCell ⟨q,0,none⟩ (.int .i64 90)).setCell ⟨q,1,none⟩ (.int .i64 2)).setCell ⟨q,2,none⟩ (.int .i64 18)).setCell ⟨q,3,none⟩ (.int .i64 28)).setCell ⟨q,4,none⟩ (.int .i64 10)).setCell ⟨q,5,none⟩ (.int .i64 38)).setCell ⟨q,6,none⟩ (.int .i64 26)).setCell ⟨q,7,none⟩ (.pointer (some ⟨f.dp,0,none⟩))).setCell ⟨q,8,none⟩ (.int .u64 f.gen)).setCell ⟨q,9,none⟩ (.int .u64 f.id)).setCell ⟨q,10,none⟩ (.map (some f.pm))).setCell ⟨q,11,none⟩ (.pointer (some ⟨f.bk,0,none⟩))).setCell ⟨q,12,none⟩ (.pointer (some ⟨d5,0,none⟩))).setCell ⟨q,13,none⟩ (.int .i64 f.bad)).setCell ⟨q,14,none⟩ (.pointer (some ⟨X.s,0,none⟩))).setCell ⟨q,15,none⟩ (.bool true):Qm);rw[<-a5]
 have d7:a4.heap[q]?=some (.cells (jC f++(([.pointer (some ⟨X.s,0,none⟩),.bool true]:List Qn)++([.pointer (some ⟨S.dp,0,none⟩)]:List Qn))).toArray T):=by
  rw[a5,show jC f= [.int .i64 90,.int .i64 2,.int .i64 18,.int .i64 28,.int .i64 10,.int .i64 38,.int .i64 26,.pointer (some ⟨f.dp,0,none⟩),.int .u64 f.gen,.int .u64 f.id,.map (some f.pm),.pointer (some ⟨f.bk,0,none⟩),.pointer (some ⟨d5,0,none⟩),.int .i64 f.bad] by rw[<-g2];rfl];exact DT _ _ _ _ _ _ _ _ _ _ _ _ _ _ _ _ a2
 have b4:Ch (·=q) P a4:=by
  rw[a5]
  iterate 16 refine aP ?_ (.inl rfl)
  exact Ch.refl _ _
 clear a5 g3 g4 g5 g6 g7 g8 g9 h0 h1 h2 h3 h4 d6 h5 h6 h7 i0 i1 i2 i3 i4 i5 i6 i7 i8 i9 j0 j1 j2 j3 j4 j5 g;obtain⟨d8,d9⟩:=a1.move (r':= [.pointer (some ⟨S.dp,0,none⟩)]) (T':=T) b4 (λk h=>(d4 k h).1) d7;have hq:F q:=by rw[R];exact .inl (.inl (.inl rfl))
 have b5:Ch F w a4:=f8.trans_ b4 λj K=>by have K:j=q:=K;rw[K];exact .inl hq
 have b6: ∀k,EF a4 q f X k->F k\/w.heap.size<=k:=λk h=>by
  rcases d9 k h with a|a
  ·exact(d4 k a).2
  ·rw[a];exact .inl hq
 rw[R] at b5 b6;have b7:=zh (And.intro d8 (And.intro b6 b5));clear d7 b4 d8 d9 hq b5 b6 h8 s;go_ret;exact⟨rfl,r,f,X,L,⟨b7.1,b7.2.1,b7.2.2⟩,a3.1,a3.2.1,a3.2.2.1,a3.2.2.2⟩
end
structure KY(B:Nat)(Q:Qm->Prop):Prop where
 st: ∀w' w'',Q w'->Qr w'.heap.size w' w''->Q w''
 gl: ∀w',Q w'->cl B w'
section
variable{w:Qm}{B q dp:Nat}{v:Qn}{s:cK}{l ans:ByteArray}{Q:Qm->Prop}
def DU(L:cg w v s)(M:Qs (s.fine l))(o:s.word=⟨#[112,117,116]⟩)(N:Qs (w.cell? ⟨q,16,none⟩=some (.pointer (some ⟨dp,0,none⟩))))(r:Qs (q<w.heap.size))(a0:Qs (KY B Q))
 (O:Qs (∀f,Qr w.heap.size w f->Qo zP 104 #[q,v] f (λx w'=>x= .returned (.string ans)/\Q w'))):
 Qo zP 57 #[q,v] w (λx w'=>x= .returned (.string ans)/\Q w'):=by
 obtain⟨P,t,u⟩:=s;obtain⟨y,A,rfl,h,i⟩:=L;have j:=zh (And.intro h i);obtain⟨R,S,T,rfl⟩: ∃a n c,y= .slice a n c:=by obtain⟨a,c,e,-⟩:=h;exact⟨a,_,c,e⟩
 obtain⟨U,V,W,rfl⟩: ∃a n c,A= .slice a n c:=by obtain⟨a,c,e,-⟩:=i;exact⟨a,_,c,e⟩
 dsimp only at o;subst o;clear h i;go_enter func57,ntmps57;go_wp2_with fail;refine zb (ga (cg.below (s:=⟨_,t,u⟩) ⟨_,_,rfl,j.1,j.2⟩ (ak w _)) M) λf C=>?_
 obtain⟨d,g⟩:=bl C;obtain⟨X,k⟩:=zx w.heap.size;rw[<-k] at d⊢;have Y:=zh d;have D:=zh g;obtain⟨c0,E,F⟩:=aW d;have H:=aa d;have I:=(g.cell (p:=⟨q,16,none⟩) r).trans N;have J:=No r g.size;clear d g k;go_wp2_with fail;refine(O f D).mono ?_;rintro x Z ⟨rfl,m⟩;have K:=zh m;clear m c0 E F H I J;go_wp2_with fail;go_ret;exact⟨rfl,K⟩
def DW(L:cg w v s)(M:Qs (s.fine l))(o:s.word=⟨#[97,115,107]⟩)(N:Qs (w.cell? ⟨q,16,none⟩=some (.pointer (some ⟨dp,0,none⟩))))(r:Qs (q<w.heap.size))(a0:Qs (KY B Q))
 (O:Qs (∀f,Qr w.heap.size w f->Qo zP 105 #[q,v] f (λx w'=>x= .returned (.string ans)/\Q w'))):
 Qo zP 57 #[q,v] w (λx w'=>x= .returned (.string ans)/\Q w'):=by
 obtain⟨P,t,u⟩:=s;obtain⟨y,A,rfl,h,i⟩:=L;have j:=zh (And.intro h i);obtain⟨R,S,T,rfl⟩: ∃a n c,y= .slice a n c:=by obtain⟨a,c,e,-⟩:=h;exact⟨a,_,c,e⟩
 obtain⟨U,V,W,rfl⟩: ∃a n c,A= .slice a n c:=by obtain⟨a,c,e,-⟩:=i;exact⟨a,_,c,e⟩
 dsimp only at o;subst o;clear h i;go_enter func57,ntmps57;go_wp2_with fail;refine zb (ga (cg.below (s:=⟨_,t,u⟩) ⟨_,_,rfl,j.1,j.2⟩ (ak w _)) M) λf C=>?_
 obtain⟨d,g⟩:=bl C;obtain⟨X,k⟩:=zx w.heap.size;rw[<-k] at d⊢;have Y:=zh d;have D:=zh g;obtain⟨c0,E,F⟩:=aW d;have H:=aa d;have I:=(g.cell (p:=⟨q,16,none⟩) r).trans N;have J:=No r g.size;clear d g k;go_wp2_with fail;refine(O f D).mono ?_;rintro x Z ⟨rfl,m⟩;have K:=zh m;clear m c0 E F H I J;go_wp2_with fail;go_ret;exact⟨rfl,K⟩
def DX(T:cg w v s)(U:Qs (s.fine l))(A:s.word=⟨#[99,117,116]⟩)(V:Qs (s.nums= []))(W:Qs (w.cell? ⟨q,16,none⟩=some (.pointer (some ⟨dp,0,none⟩))))(C:Qs (q<w.heap.size))(D:Qs (KY B Q))(E:Qs (gb [0]))
 (X:Qs (∀d u,Qr w.heap.size w d->aE d u []->Qo zP 108 #[q,u] d (λx w'=>x= .returned (.int .i64 0)/\Q w'))):
 Qo zP 57 #[q,v] w (λx w'=>x= .returned (.string (dN [0]))/\Q w'):=by
 obtain⟨Y,k,F⟩:=s;obtain⟨H,I,rfl,h,i⟩:=T;have j:=zh (And.intro h i);obtain⟨Z,a0,a1,rfl⟩: ∃a n c,H= .slice a n c:=by obtain⟨a,c,e,-⟩:=h;exact⟨a,_,c,e⟩
 obtain⟨a2,a3,a4,rfl⟩: ∃a n c,I= .slice a n c:=by obtain⟨a,c,e,-⟩:=i;exact⟨a,_,c,e⟩
 dsimp only at A;subst A;clear h i;go_enter func57,ntmps57;go_wp2_with fail;refine zb (ga (cg.below (s:=⟨_,k,F⟩) ⟨_,_,rfl,j.1,j.2⟩ (ak w _)) U) λd J=>?_
 obtain⟨f,g⟩:=bl J;obtain⟨a5,m⟩:=zx w.heap.size;rw[<-m] at f⊢;have a6:=zh f;have o:=zh g;obtain⟨c0,K,L⟩:=aW f;have M:=aa f;have N:=(g.cell (p:=⟨q,16,none⟩) C).trans W;have O:=No C g.size;clear f g m;go_wp2_with fail;refine(X d _ o (by have r:=j.1;have P:k= []:=V;rw[P] at r;exact r.below o)).mono ?_;rintro x a7 ⟨rfl,t⟩;have y:=zh t;clear t;clear c0 K L M N O;go_wp2_with fail;refine zb (fc (B:=B) (l:= [0]) ((D.gl _ y).fresh ze) (eC zm rfl E.1 ⟨by show 1<=1;decide,zd⟩) (by show 1<=10;decide) (by show 0<1;decide) E.2) λa8 R=>?_
 have S:=D.st _ _ y (ai ze R);go_wp2_with fail;go_ret;exact⟨rfl,S⟩
def Aj{x y z:Int}(S:cg w v s)(T:Qs (s.fine l))(t:s.word=⟨#[115,116,101,112]⟩)(U:Qs (w.cell? ⟨q,16,none⟩=some (.pointer (some ⟨dp,0,none⟩))))(u:Qs (q<w.heap.size))(j:Qs (KY B Q))(A:Qs (gb [0,x,y,z]))
 (V:Qs (∀f,Qr w.heap.size w f->Qo zP 28 #[q] f (λe w'=>e= .returned (.tuple #[.agg #[x,y,z],()])/\Q w'))):
 Qo zP 57 #[q,v] w (λe w'=>e= .returned (.string (dN [0,x,y,z]))/\Q w'):=by
 obtain⟨W,C,D⟩:=s;obtain⟨E,F,rfl,h,i⟩:=S;have k:=zh (And.intro h i);obtain⟨X,Y,Z,rfl⟩: ∃a n c,E= .slice a n c:=by obtain⟨a,c,e,-⟩:=h;exact⟨a,_,c,e⟩
 obtain⟨a0,a1,a2,rfl⟩: ∃a n c,F= .slice a n c:=by obtain⟨a,c,e,-⟩:=i;exact⟨a,_,c,e⟩
 dsimp only at t;subst t;clear h i;go_enter func57,ntmps57;go_wp2_with fail;refine zb (ga (cg.below (s:=⟨_,C,D⟩) ⟨_,_,rfl,k.1,k.2⟩ (ak w _)) T) λf H=>?_
 obtain⟨d,g⟩:=bl H;obtain⟨a3,m⟩:=zx w.heap.size;rw[<-m] at d⊢;have a4:=zh d;have I:=zh g;obtain⟨c0,J,K⟩:=aW d;have L:=aa d;have M:=(g.cell (p:=⟨q,16,none⟩) u).trans U;have N:=No u g.size;clear d g m;go_wp2_with fail;refine(V f I).mono ?_;rintro e O ⟨rfl,o⟩;have r:=j.st _ _ o (ak O (.cells #[x,y,z] 97));clear o;clear c0 J K L M N;go_wp2_with fail;refine zb (fc (B:=B) (l:= [0,x,y,z]) ((j.gl _ r).fresh ze) (eC zm rfl A.1 ⟨by show 4<=4;decide,zd⟩) (by show 4<=10;decide) (by show 0<4;decide) A.2) λa5 P=>?_
 have R:=j.st _ _ r (ai ze P);go_wp2_with fail;go_ret;exact⟨rfl,R⟩
def uN{e at_:Int}{t L:ByteArray}(a7:cg w v s)(a8:Qs (s.fine l))(M:s.word=⟨#[99,104,97,110,103,101]⟩)(a9:Qs (s.text= [t]))(b0:Qs (w.cell? ⟨q,16,none⟩=some (.pointer (some ⟨dp,0,none⟩))))(N:Qs (q<w.heap.size))(O:Qs (KY B Q))(P:Qs (gb [e,at_]))
 (b1:Qs (∀d,Qr w.heap.size w d->Qo zP 54 #[t] d (aK d (.string L))))
 (b2:Qs (∀d,Qr w.heap.size w d->Qo zP 25 #[q,L] d (λx w'=>x= .returned (.tuple #[e,at_])/\Q w'))):
 Qo zP 57 #[q,v] w (λx w'=>x= .returned (.string (dN [e,at_]))/\Q w'):=by
 obtain⟨b3,R,r⟩:=s;obtain⟨S,T,rfl,i,j⟩:=a7;have k:=zh (And.intro i j);obtain⟨b4,b5,b6,rfl⟩: ∃a n c,S= .slice a n c:=by obtain⟨a,c,e,-⟩:=i;exact⟨a,_,c,e⟩
 obtain⟨b7,b8,b9,rfl⟩: ∃a n c,T= .slice a n c:=by obtain⟨a,c,e,-⟩:=j;exact⟨a,_,c,e⟩
 dsimp only at M;subst M;clear i j;go_enter func57,ntmps57;go_wp2_with fail;refine zb (ga (cg.below (s:=⟨_,R,r⟩) ⟨_,_,rfl,k.1,k.2⟩ (ak w _)) a8) λd U=>?_
 obtain⟨f,g⟩:=bl U;obtain⟨c1,u⟩:=zx w.heap.size;rw[<-u] at f⊢;have c2:=zh f;have h:=zh g;obtain⟨c0,V,y⟩:=aW f;have W:=aa f;have X:=(g.cell (p:=⟨q,16,none⟩) N).trans b0;have Y:=No N g.size;clear f g u;have A:=k.2;have C:r= [t]:=a9;rw[C] at A;obtain⟨c3,c',m,-,-,D⟩:=A;injection m with m Z a0
 subst m Z a0;obtain⟨E,F,rfl,H,I⟩:=D zm;have o:w.cell? ⟨E,F,none⟩=some (.string t):=I 0 zm;have o:=(h.cell (p:=⟨E,F,none⟩) H).trans o;have a1:=No H h.size;clear D I C;dsimp only[List.length_cons,List.length_nil,Nat.zero_add] at y⊢;go_wp2_with fail;go_region_with (first|(refine(b1 _ (h.drew)).mono ?_;rintro x a2 ⟨rfl,a3⟩;have a4:=ai h (ec a3))|(refine(b2 a2 a4).mono ?_;rintro x c4 ⟨rfl,J⟩;have K:=zh J;clear J))
 all_goals
  clear o a1;clear c0 V y W X Y;go_wp2_with fail;refine zb (fc (B:=B) (l:= [e,at_]) ((O.gl _ K).fresh ze) (eC zm rfl P.1 ⟨by show 2<=2;decide,zd⟩) (by show 2<=10;decide) (by show 0<2;decide) P.2) λc5 a5=>?_
  have a6:=O.st _ _ K (ai ze a5);go_wp2_with fail;go_ret;exact⟨rfl,a6⟩
end
section
variable{P:Program}{w w':Qm}{v v':Qn}
def xm{base n:Nat}{t u d e:Qp}{i:TypeInfo}{f:List Qn}(m:P.underlying t=some (.slice e))(o:P.underlying u=some .string)(p:P.info? e=some i)(A:i.zero=some (.int .u8 0))(r:i.size=1)(B:i.bytes=1)
 (h:w.ownsRow base e 1 v n f) (s:ByteArray) (C:n+s.size<=maxLen) (J:n+s.size<=140737488355328) (R:base<=w.heap.size) (x:(Builtin.append_ #[t,u] d #[v,s]).run P w= .ok v' w'):fM w v v':=by
 rcases h.2 with⟨rfl,rfl⟩|⟨g,cap,D,rfl,K,k,L,M,E,N⟩
 ·have F:f= []:=NI (by simpa using h.1)
  subst F;obtain⟨O,Q,a,H,-,-⟩:=Lib.run_append_own_string (P:=P) w w.heap.size t u d e i m o p A r B (.slice none 0 0) 0 [] (World.ownsRow_nil w w.heap.size e 1) s C J zl;rw[x] at a;injection a with c l
  subst c l;exact .inr λg k=>(ar H k).1
 ·by_cases y:n+s.size<=cap
  ·have a:=Lib.run_append_room_string (P:=P) w t u d e i m o p r g n cap D k s y (by rw[E,Nat.mul_one];exact y)
   rw[x] at a;injection a with c l
   exact .inl (by rw[c];rfl)
  ·have I: ∀j u,f[j]?=some u->w.cell? ((⟨g,0,none⟩:Addr).add j)=some u:=h.cells (g:=g) rfl
   have a:=Lib.run_append_grow_string (P:=P) w t u d e i _ m o p A ⟨g,0,none⟩ n cap f (by rw[r];exact h.1) I s zo (by simp only[maxLen] at C;omega) (growslice_fits zo (by rw[B];omega));rw[x] at a;injection a with c l
   refine .inr λq hq=>?_
   rw[c] at hq;have:w.heap.size=q:=Oa hq;omega
def lL{ops:Array Oper}{rest:List Oper}{o:Oper}{a:Act}{f:Exit->Act->Qm->Prop}(F:o.guard=none)(g x:Operand)(t u:Qp)(H:o.op= .call {callee:= .builtin .append,args:=#[g,x],argTypes:=#[t,u]})
 (base:Nat) (e:Qp) (i:TypeInfo) (h:P.underlying t=some (.slice e)) (j:P.underlying u=some .string) (k:P.info? e=some i) (l:i.zero=some (.int .u8 0)) (m:i.size=1) (p:i.bytes=1)
 (v:Qn) (n:Nat) (c:List Qn) (I:a.eval g=v) (q:w.ownsRow base e 1 v n c) (s:ByteArray) (J:a.eval x= .string s) (r:n+s.size<=maxLen) (y:n+s.size<=140737488355328) (A:base<=w.heap.size)
 (K: ∀v' w',w'.ownsRow base e 1 v' (n+s.size) (c++Lib.strCells s)->w.grownBy w' v.ownBlock->fM w v v'->wpList P ops f rest (a.put o.dst v') w'):wpList P ops f (o::rest) a w:=by
 refine Pr F λL B=>?_
 obtain⟨v',w',d,C,D,M⟩:=Lib.run_append_own_string (P:=P) w base t u o.type e i h j k l m p v n c q s r y A;have E:=xm h j k l m p q s r y A d;unfold Oper.wp execOp;simp only[H,resolve,invoke,builtin,Sem.run_bind,Sem.run_pure,Result.andThen_ok,List.map_toArray,Oq,List.map_nil,I,J,d];exact B _ _ (K v' w' C D E)
end
def Eh(w:Qm)(B b:Nat)(l:List UInt8)(O:Nat->Prop):Prop:=B<=b/\ ∃p v,(p= .pointer none\/p= .pointer (some ⟨b,0,none⟩))/\w.heap[b]?=some (.cells #[p,v] 136)/\w.ownsRow B 5 1 v l.length (Lib.byteCells l)/\v.ownBlock≠some b/\ ∀k,O k↔k=b\/v.ownBlock=some k
section
variable{w w':Qm}{B b:Nat}{l:List UInt8}{O F:Nat->Prop}
def Eh.ch(n:Eh w B b l O)(f:Ch F w w')(h: ∀k,O k-> ¬F k):Eh w' B b l O:=by
 obtain⟨i,p,v,j,c,d,m,a⟩:=n;exact⟨i,p,v,j,(f.block b (aa c) (h b ((a b).2 (.inl rfl)))).trans c,aZ d λg e=>f.block g (ar d e).2.1 (h g ((a g).2 (.inr e))),m,a⟩
def Eh.lt(g:Eh w B b l O){k:Nat}(h:O k):B<=k/\k<w.heap.size:=by
 obtain⟨c,p,v,i,d,a,j,f⟩:=g;rcases(f k).1 h with rfl|e
 ·exact⟨c,aa d⟩
 ·exact⟨(ar a e).1,(ar a e).2.1⟩
def Eh.is(h:Eh w B b l O):Lib.IsBuilder 136 5 B b (Lib.byteCells l) w:=by
 obtain⟨a,p,v,g,c,d,e,i⟩:=h;have f:(Lib.byteCells l).length=l.length:=by simp[Lib.byteCells]
 rcases g with rfl|rfl
 ·exact .inl ⟨a,v,c,by rw[f];exact d,e⟩
 ·exact .inr ⟨a,v,c,by rw[f];exact d,e⟩
def xn{v:Qn}{p:Qn}(i:B<=b)(k:p= .pointer none\/p= .pointer (some ⟨b,0,none⟩))(c:w.heap[b]?=some (.cells #[p,v] 136))(d:w.ownsRow B 5 1 v l.length (Lib.byteCells l))(f:v.ownBlock≠some b):
 Qo zP 103 #[b] w λe w'=>e= .returned (.tuple #[])/\w'.heap[b]?=some (.cells #[b,v] 136)/\w'.ownsRow B 5 1 v l.length (Lib.byteCells l)/\Ch (·=b) w w':=by
 have h:(Lib.byteCells l).length=l.length:=by simp[Lib.byteCells]
 rcases k with rfl|rfl
 ·have a:Lib.BuilderAt 136 5 B b (.pointer none) (Lib.byteCells l) w:=⟨i,v,c,by rw[h];exact d,f⟩
  refine(oB b w a.cell0 a.shape a.frozen0).mono ?_;rintro e w' ⟨rfl,rfl⟩;exact⟨rfl,by rw[al c];rfl,aZ d λg j=>af _ (by intro e;subst e;exact f j),aP (Ch.refl _ _) (.inl rfl)⟩
 ·have a:Lib.BuilderAt 136 5 B b (.pointer (some ⟨b,0,none⟩)) (Lib.byteCells l) w:=⟨i,v,c,by rw[h];exact d,f⟩
  refine(qE b w a.cell0).mono ?_;rintro e w' ⟨rfl,rfl⟩;exact⟨rfl,c,d,Ch.refl _ _⟩
def xo(s:ByteArray)(a:Eh w B b l O)(I:l.length+s.size<=140737488355328)(a5:B<=w.heap.size):
 Qo zP 56 #[b,s] w λe w'=>e= .returned (.tuple #[(s.size:Int),.nilIface])/\ ∃t,Eh w' B b (l++s.data.toList) t/\Ch O w w'/\ ∀k,t k->O k\/w.heap.size<=k:=by
 obtain⟨J,K,L,M,N⟩:=info_parts sG;obtain⟨m,p,v,u,x,y,n,A⟩:=a;have P:=zh (xn m u x y n);have d:=zh (And.intro m (And.intro n A));have C:=zh I;clear I m u x y n A;have Z:(Lib.byteCells l).length=l.length:=by simp[Lib.byteCells]
 go_enter func56,ntmps56;go_wp2_with fail;refine P.mono ?_;rintro e Q ⟨rfl,q,D,r⟩;obtain⟨c0,R⟩:=bE q;have a0:=r.size;have S:=zh r;have E:=zh q;clear r q;go_wp2_with (at_builtin;refine lL rfl _ _ 134 9 rfl B 5 J underlying134 underlying9 K L M N _ _ _ rfl D s rfl ?c3 ?c4 ?c5 ?_)
 case c3=>have:=C.out;unfold maxLen;omega
 case c4=>have:=C.out;omega
 case c5=>omega
 intro v' T h i j;have U:=aa E;have f:=(i.block b U (λe=>d.2.1 e.symm)).trans E;obtain⟨a1,a2⟩:=bE f;have a3:=ad (o:=1) f;obtain⟨F,cap,rfl⟩:=az h;have a4:=aa f;have V:=zh (And.intro i (And.intro j (And.intro f h)));clear i j f D h c0 R;go_wp2;go_ret2;obtain⟨i,j,f,h⟩:=V.out
 have H:(Value.slice F (l.length+s.size) cap).ownBlock≠some b:=λe=>by
  rcases j with a|a
  ·rw[a] at e;exact d.2.1 e
  ·have:=a b e;omega
 have e:Lib.byteCells (l++s.data.toList)=Lib.byteCells l++Lib.strCells s:=by simp[Lib.byteCells,Lib.strCells]
 refine⟨rfl,λk=>k=b\/(Value.slice F (l.length+s.size) cap).ownBlock=some k,⟨d.1,_,_,.inr rfl,by rw[al f];rfl,?_,H,λk=>Iff.rfl⟩,?_,λk c=>?_⟩
 ·rw[e,show(l++s.data.toList).length=l.length+s.size by rw[Nw];simp]
  exact aZ h λg W=>af _ (by intro e;subst e;exact H W)
 ·have X:Ch O w Q:=S.mono λk _ c=>(d.2.2 k).2 (.inl c)
  have Y:Ch O w T:=fQ X i λk c=> .inl ((d.2.2 k).2 (.inr c))
  exact aP Y (.inl ((d.2.2 b).2 (.inl rfl)))
 ·rcases c with rfl|c
  ·exact .inl ((d.2.2 _).2 (.inl rfl))
  ·rcases j with a|a
   ·rw[a] at c;exact .inl ((d.2.2 k).2 (.inr c))
   ·have:=a k c;exact .inr zo
end
end Go.Proofs.YtdflhgceeloijaaGreatDoor
