import Derived.Test.YtdflhgceeloijaaGreatDoorZ1
import Derived.Test.YtdflhgceeloijaaGreatDoorZ2
import Derived.Test.YtdflhgceeloijaaGreatDoorZ3
import Derived.Test.YtdflhgceeloijaaGreatDoorZ4
set_option linter.all false
set_option maxRecDepth 100000
set_option maxHeartbeats 16000000
namespace Go.Proofs.YtdflhgceeloijaaGreatDoor
open Go Go.RowKit Tryz
open Tryz renaming prog→zP
open Go renaming World→Qm,Value→Qn,Calls→Qo,TypeId→Qp,Ending→Qq
open Go.RowKit renaming Below→Qr,Hid→Qs
section
variable{w w':Qm}{B E t:Nat}{τ:dJ}{tv fv lv:Qn}{ps:List bF}
def Mx{w:Qm}{b:Nat}{T:Qp}{f a c d e:Qn}(y:Qn)(g:w.heap[b]?=some (.cells #[f,a,c,d,e] T)):(w.setCell ⟨b,0,none⟩ y).heap[b]?=some (.cells #[y,a,c,d,e] T):=by
 rw[al g];rfl
def hY.now(a:hY w B E t τ tv fv lv ps)(n:Int):hY (w.setCell ⟨t,0,none⟩ (.int .i64 n)) B E t ⟨{τ.r with now:=n},τ.tabs⟩ tv fv lv ps:=by
 have c: ∀k,k≠t->(w.setCell ⟨t,0,none⟩ (.int .i64 n)).heap[k]?=w.heap[k]?:=λk c=>af _ c
 exact⟨Mx _ a.blk,⟨co a.tiers.1 a.tiers.2 zm λk _ d=>c k zo,a.tiers.2⟩,⟨da a.floors.1 a.floors.2 zm λk _ d=>c k zo,a.floors.2⟩,a.tabs.step zm λk e _=>c k zo,a.len,a.iv.1,by simpa using a.iv.2⟩
def AT(w:Qm)(B E t:Nat)(τ:dJ)(v:Qn)(e:Qq)(w':Qm):Prop:=e= .returned v/\Qs (dY w' B E t τ)/\Qs (Ch (λk=>B<=k/\k<E) w w')
def yx(H:Qs (hY w B E t τ tv fv lv ps))(A:0<τ.tabs.length)(a3:τ.tabs.length<=100)(T:Qs (∀o∈τ.tabs,o=none))(n:Int)(a4:0<=n)(a5:0<=τ.r.now/\τ.r.now+n<=1099511627776):
 Qo zP 66 #[t,n] w (AT w B E t ⟨{τ.r with now:=τ.r.now+n},τ.tabs⟩ (.int .i64 0)):=by
 have U:=zi (n<0);go_enter func66,ntmps66;go_wp2_with fail;refine zb (gO H A) λC q=>?_
 have a:=H.below q;obtain⟨_,b,o,c,p,rfl,-,-,-,-,-⟩:=a.tabs.elem A;obtain⟨c0,r,s,u,v⟩:=eB a.blk;have D:=ad (o:=0) a.blk;have V:=zi (1099511627776-τ.r.now<n);have I:aQ (τ.r.now+n):=by unfold aQ;omega
 have J:=a.iv;go_wp2_with fail;obtain⟨f,g⟩:=zx (C.setCell ⟨t,0,none⟩ (.int .i64 (τ.r.now+n)));have K:=zh (show hY f B E t ⟨{τ.r with now:=τ.r.now+n},τ.tabs⟩ _ _ _ _ by rw[g];exact a.now _);have L:=zh (show Ch (λk=>B<=k/\k<E) w f by rw[g];exact aP (Ch.fresh q) (.inl J.1));rw[<-g];clear g D c0 r s u v;go_loopw [38] (λi wr=> ∃k:Nat,k<=τ.tabs.length/\i= .int .i64 k/\Qs (Qr f.heap.size f wr)) (λi _=>τ.tabs.length-(intOf i).toNat)
 case atStart=>exact⟨0,Nx _,rfl,zh zr⟩
 case round=>
  obtain⟨k,W,rfl,m⟩:=hrel;have h:=K.below m;obtain⟨c0,r,s,u,v⟩:=eB h.blk;by_cases j:k<τ.tabs.length
  ·obtain⟨_,X,o',c',p,e,-,Y,-,Z,l⟩:=h.tabs.elem j
   injection e with d a0 M;injection d with d;injection d with d N;subst d N M
   dsimp only at l;rw[show τ.tabs.getD k none=none from T _ (by rw[Nr,Np j];exact NT j)] at l;have O:=zh (show bN wr _ _ _ [] from l);clear l;go_wp2_with fail;refine zb (cH _ _ k _ h.reach I (by unfold aQ;omega)) λa1 x=>?_
   obtain⟨F,y⟩:=zx (RV.from {τ.r with now:=τ.r.now+n} k);rw[<-y];have P:=O.below x;have Q:=ai m x;clear y;go_wp2_with fail;refine zb (yp P F) λa2 R=>?_
   have S:=ai Q R;go_wp2;go_roundw
   case rel=>exact⟨k+1,j,by go_num,S⟩
   case measure=>simp[intOf];omega
  ·go_wp2
   go_ret;exact⟨rfl,⟨_,_,_,_,h⟩,L.trans (Ch.fresh m)⟩
def Qv:aF.zero.valid=false:=by simp[aF.valid,aF.zero]
def vR{a:aF}(c:a.valid=true):ey [aF.zero,a]=a:=by
 simp[ey,Qv,c,ea,aF.zero]
def uk{e:Int}{r:ay}(a:cI e r=true):r.agg.valid=true:=by
 unfold cI at a;simp only[Ot] at a;exact a.2
def mt{v:Qn}{w:Qm}{p b:Nat}{e:Int}{r:ay}(d:bN w p e b [])(f:aQ e)(g:aB 7 ay.cells w v [r])(h:r.ok)(c:cI e r=true):
 Qo zP 202 #[p,v] w (λx w'=>x= .returned (.int .i64 1)/\Qs (bN w' p e b (fH (some r)))/\Qs (Ch (·=b) w w')):=by
 have a:=Fs d f g h c;rw[vR (uk c)] at a;exact a
def hY.put{w:Qm}{k:Nat}{p:bF}{o:Option ay}(a:hY w B E t τ tv fv lv ps)(h:rS o)(g:ps[k]?=some p)(c:Ch (·=p.2) w w')(i:bN w' p.1 (τ.es.getD k 0) p.2 (fH o)):hY w' B E t ⟨τ.r,τ.tabs.set k o⟩ tv fv lv ps:=by
 have l:=(a.tabs.iv k p g).2;have d: ∀j,j<w.heap.size->j≠p.2->w'.heap[j]?=w.heap[j]?:=λj e f=>c.block j e f
 have m:=a.iv;exact⟨(d t zo zo).trans a.blk,⟨co a.tiers.1 a.tiers.2 c.size λk e f=>d k zo zo,a.tiers.2⟩,⟨da a.floors.1 a.floors.2 c.size λk e f=>d k zo zo,a.floors.2⟩,a.tabs.put h g c i,by simpa using a.len,a.iv.1,Nq a.iv.2 c.size⟩
def Fy(j:Nat)(a w:Qm):Prop:=Ch (·=j) a w/\ ∀b o,b<a.heap.size->b≠j->w.cell? ⟨b,o,none⟩=a.cell? ⟨b,o,none⟩
def AU{j:Nat}{c w:Qm}(d:Ch (·=j) c w):Fy j c w:=⟨d,λb o e f=>World.cell?_of_block (a:=⟨b,o,none⟩) (d.block b e f)⟩
def nG(j:Nat)(a:Qm):Fy j a a.drew:=AU ⟨rfl,rfl,rfl,Nt _,λ_ _ _=>rfl⟩
def gP{j:Nat}{a w w':Qm}(c:Fy j a w)(d:Ch (·=j) w w'):Fy j a w':=AU (c.1.trans d)
def vS(l:List ay):br kM:= .rel (λv w=>aB 7 ay.cells w v l) (λ_ _ _ a c=>a.below c)
def lB(H:Qs (hY w B E t τ tv fv lv ps))(k:Nat)(b5:k<τ.tabs.length)(d5:τ.tabs.length<=100)(d6:Qs (aQ τ.r.now))(b6: ∀k,k<τ.tabs.length->aQ (τ.es.getD k 0))(b7:Qs (τ.tabs.getD k none=none))(v:Qn)(n:Option ay)(b8:aB 7 ay.cells w v n.toList)
 (d7:Qs (∀r∈n,r.ok/\cI (τ.es.getD k 0) r=true/\τ.r.from k<=r.start)):Qo zP 187 #[t,(k:Int),v] w (AT w B E t ⟨τ.r,τ.tabs.set k n⟩ (.int .i64 n.toList.length)):=by
 have b9:=zh b8;have c1:=zh (b6 k b5);have c2:0<τ.tabs.length:=zo;have c3:(k:Int)<τ.tabs.length:=zo;have M:aQ (k:Int):=by unfold aQ;omega
 obtain⟨va,vc,rfl,-,-⟩:=b8;clear b6;go_enter func187,ntmps187;go_wp2_with fail;refine zb (AS H c2 k M d5) λg q=>?_
 rw[NV (zo:(0:Int)<=k),NV c3,PT];have N:=H.below q;have c4:=b9.below q;cases n with
 |none=>
  go_wp2_with fail;refine NM 1 ?_;rw[NF];go_wp2;go_ret;refine⟨rfl,?_,Ch.fresh q⟩
  have c5:τ.tabs.set k none=τ.tabs:=Pa zm λi d8 h=>by
   rw[PK];split
   ·rename_i e;subst e;have:=b7.out;rw[Nr,Np h] at this;exact this.symm
   ·rfl
  rw[c5];exact⟨_,_,_,_,N⟩
 |some r=>
  obtain⟨O,P,Q⟩:=d7 r rfl;have R:=zh O;have c6:=zh P;obtain⟨d9,e0,rfl,e1,T,U,V,W,X,Y,Z⟩:=ds (j:=0) c4 rfl;simp only[Ox,NR] at T U V W X Y Z;go_wp2_with fail;refine NM 2 ?_;rw[NF];go_wp2_with fail;obtain⟨x,s⟩:=zx (g.alloc (.cells #[r.name,(r.start:Int),(r.agg.c:Int),(r.agg.hi:Int),.int .u64 r.agg.lo,(r.agg.mn:Int),(r.agg.mx:Int)] 65));have y:=zh (show x.heap[g.heap.size]?=some (.cells #[r.name,(r.start:Int),(r.agg.c:Int),(r.agg.hi:Int),.int .u64 r.agg.lo,(r.agg.mn:Int),(r.agg.mx:Int)] 65) by rw[s];exact ag rfl);have A:Qr g.heap.size g x:=by rw[s];exact ak _ _
  rw[<-s];have c7:=ai q A;have u:=N.below A;obtain⟨n0,n1,n2,a0,a1,a2,a3⟩:=lP y;have e2:=aa y;obtain⟨c0,a4,a5,a6,a7⟩:=eB u.blk;have c8:=aa u.blk;obtain⟨F,a8⟩:=zy (τ.r.from k);rw[<-a8] at Q;have e3:decide (F<=r.start)=true:=NV Q;clear s A T U V W X Y Z O P;refine zJ x 9 (zL [?_,?_,?_,?_,?_,?_,?_,?_,?_]) zq ?_;rotate_right
  iterate 7
   refine zV ?_
  refine aw zk rfl rfl ?_ ?_
  ·intro g d a9 b0 m;have e4:=d.2;go_simp;refine zb (cH _ _ k _ (u.reach.below d.1) d6 M) λe5 c9=>?_;rw[<-a8];exact m.out _ _ zz c9
  refine zV ?_;refine zD λb1 d a9=>?_
  have d0:=ai c7 d.1;have f:=u.below d.1;have C:=zh (ab y d.1);clear a9 d c0 a4 a5 a6 a7 n0 n1 n2 a0 a1 a2 a3;obtain⟨n0,n1,n2,a0,a1,a2,a3⟩:=lP C;obtain⟨_,b,o,c,p,rfl,-,e6,b2,b3,D⟩:=f.tabs.elem b5;obtain⟨c0,a4,a5,a6,a7⟩:=eB f.blk;have c8:=aa f.blk;have e7:=aa C;rw[b7] at D;have I:=zh (show bN b1 _ _ _ [] from D);have J:=zh b2;clear D b2;go_wp2_with fail;have e8:t≠p.2:=λe=>by have:=(f.tabs.iv k p J).2;omega
  have e9:b≠p.2:=λe=>by
   obtain⟨es,d1,K,_⟩:=I.map;unfold World.cell? at b3;simp[e,K] at b3
  have f0:g.heap.size≠p.2:=λe=>by
   obtain⟨es,d1,K,_⟩:=I.map;have:=C.out;rw[e,K] at this;cases this
  refine aC (S:=(Fy p.2 b1)) 13 zk ?_ (λa=>?_)
  ·(first|exact nG _ _|exact gP a (Ch.fresh ze)|exact gP a L)
  refine zT 0 ?_;refine zT 1 ?_;refine zT 2 ?_;refine zT 3 ?_;refine zT 4 ?_;refine zT 5 ?_;refine zT 6 ?_;refine zT 7 ?_;refine zT 8 ?_;refine zO 9 λb0 m=>?_
  go_simp
  skip
  refine zE m (by first|exact nG _ _|exact gP a (Ch.fresh ze)|exact gP a L) λa=>?_
  refine zO 10 λb0 m=>?_
  go_simp;refine(mt (I.drew.below ze) c1 (bC 7 (c:=1) (l:= [r]) (ag rfl) rfl ⟨Nt 1,zd⟩) R c6).mono ?_;rintro e w7 ⟨rfl,d2,L⟩;refine zE m (by first|exact nG _ _|exact gP a (Ch.fresh ze)|exact gP a L) λa=>?_
  refine zT 11 ?_;refine zT 12 ?_;refine zH ?_;rw[show IntKind.i64.wrap 1=1 from rfl];have b4:=zh a.1;have d3:=f.put (k:=k) (o:=some r) (λf1 h=>by injection h with h;subst h;exact R) J b4 d2;have d4:=zh (show Ch (λk=>B<=k/\k<E) w w7 from(Ch.fresh d0).trans (b4.mono λj _ e=>by have:=(f.tabs.iv k p J).2;have:=f.iv;have e:j=p.2:=e;omega));clear a;go_wp2_with fail;rw[NF];go_wp2;go_ret;exact⟨rfl,⟨_,_,_,_,d3⟩,d4⟩
end
def ay.rolled(r:ay)(e:Int):ay:={r with start:=bR r.start e}
def gx(o:Option ay)(e fr:Int):Option ay:=o.bind λr=>if fr<=bR r.start e then some (r.rolled e) else none
def Lm{w:Qm}{b:Nat}{T:Qp}{a h c d e f g:Qn}(y:Qn)(i:w.heap[b]?=some (.cells #[a,h,c,d,e,f,g] T)):(w.setCell ⟨b,1,none⟩ y).heap[b]?=some (.cells #[a,y,c,d,e,f,g] T):=by
 rw[al i];rfl
def Cw{w:Qm}{p b:Nat}{e ev fr:Int}{o:Option ay}(H:Qs (bN w p e b (fH o)))(d5:Qs (rS o))(e9:1<=e/\e<=1000000)(f0:1<=ev/\ev<=1000000)(f:lS ev e=true)(b1:aQ fr)(d6:Qs (∀r∈o,cI ev (r.rolled ev)=true)):
 Qo zP 188 #[p,ev,fr] w (Fw w ev (gx o ev fr)):=by
 have b2:=zh f;have d7:=zh b1;have b3:aQ e:=by unfold aQ;omega
 have n:aQ ev:=by unfold aQ;omega
 have b4:max ev 1=ev:=zo;clear f b1;go_enter func188,ntmps188;go_wp2_with fail;refine(qw ev _ n).mono ?_;rintro x q ⟨b5,b6,rfl,s,D,E,R⟩;rw[b4] at s;have S:=H.below R;obtain⟨c0,I⟩:=bE s.blk;have d8:=aa s.blk;go_wp2_with fail;refine zJ q 8 (zL [?_,?_,?_,?_,?_,?_,?_,?_]) zq ?_;rotate_right;refine zV ?_;refine aw zk rfl rfl ?_ ?_
 ·intro q d f T m;have U:=d.2;go_simp;refine zb (ya (S.below d.1)) λV b7=>?_;exact m.out _ _ zz b7
 iterate 4
  refine zV ?_
 refine aw zk rfl rfl ?_ ?_
 ·intro q d f T m;have U:=d.2;go_simp;refine(ee _ _ _ n b3).mono ?_;rintro e V ⟨rfl,h⟩;have h:=h.symm;subst h;rw[b2];exact m.out _ _ zz zr
 refine zV ?_;refine zD λV d f=>?_
 have B2:=ai R d.1;have b8:=s.below d.1;have b9:=S.below d.1;clear d f c0 I;go_wp2_with fail;refine(ft b9).mono ?_;rintro x g ⟨v,rfl,c1,W⟩;have X:=(aB.own c1).1;have c2:=zh X;have J:=ai B2 W;have t:=b8.below W;obtain⟨a,c,rfl,-,-⟩:=X;cases o with
 |none=>
  go_wp2_with fail;refine NM 1 ?_;rw[NF];go_wp2;go_ret;exact⟨_,_,rfl,t,D,E,J⟩
 |some r=>
  obtain⟨d9,e0,rfl,e1,Y,Z,a0,a1,a2,a3,a4⟩:=ds (j:=0) c2 rfl;simp only[Ox,NR] at Y Z a0 a1 a2 a3 a4;have K:=d5 r rfl;have a5:=zh K;have L:=K.2.1;have M:=gU r.start ev L zo;obtain⟨F,i⟩:=zy (bR r.start ev);rw[<-i] at M;have c3:=zh (show aQ F from M);have c4:=zh (show aQ r.start from L);clear K M L;go_wp2_with fail;refine NM 2 ?_;rw[NF];go_wp2_with fail;obtain⟨N,y⟩:=zx (g.alloc (.cells #[r.name,(r.start:Int),(r.agg.c:Int),(r.agg.hi:Int),.int .u64 r.agg.lo,(r.agg.mn:Int),(r.agg.mx:Int)] 65));have O:=zh (show N.heap[g.heap.size]?=some (.cells #[r.name,(r.start:Int),(r.agg.c:Int),(r.agg.hi:Int),.int .u64 r.agg.lo,(r.agg.mn:Int),(r.agg.mx:Int)] 65) by rw[y];exact ag rfl);have P:Qr g.heap.size g N:=by rw[y];exact ak _ _
  rw[<-y];have c5:=ai J P;have Q:=t.below P;have c6:=J.size;obtain⟨n0,n1,n2,a6,a7,a8,a9⟩:=lP O;obtain⟨c0,I⟩:=bE Q.blk;have e2:=aa O;have e3:=aa Q.blk;clear y P Y Z a0 a1 a2 a3 a4;refine zJ N 8 (zL [?_,?_,?_,?_,?_,?_,?_,?_]) zq ?_;rotate_right
  iterate 6
   refine zV ?_
  refine aw zk rfl rfl ?_ ?_
  ·intro q d f T m;have U:=d.2;go_simp;refine(mW _ _ _ c4 n).mono ?_;rintro e c7 ⟨rfl,h⟩;have h:=h.symm;subst h;rw[<-i];exact m.out _ _ zz zr
  refine zV ?_;refine zA λc7 d f=>?_
  have A:=zh (ab O d.1);have c8:=ai c5 d.1;have c9:=Q.below d.1;have e4:=ad (o:=1) A;have e5:=aa A;clear f d n0 n1 n2 a6 a7 a8 a9 c0 I;obtain⟨n0,n1,n2,a6,a7,a8,a9⟩:=lP A;have e6:=zh (Lm (.int .i64 F) A);have d0:b5≠g.heap.size:=by have:=aa t.blk;omega
  have d1:b6≠g.heap.size:=by have:=t.map.lt;omega
  have b0:=c9.step (af (a:=⟨g.heap.size,1,none⟩) (.int .i64 F) d0) (af _ d1);have C:=ao (p:=⟨g.heap.size,1,none⟩) (u:= .int .i64 F) c8 c6;by_cases e7:fr<=F
  ·go_wp2_with fail
   refine(mt (r:=r.rolled ev) (b0.below ze) n (bC 7 (c:=1) (l:= [r.rolled ev]) (ag zm) (by unfold ay.rolled;rw[<-i];rfl) ⟨Nt 1,zd⟩) ⟨a5.1,by show aQ (bR r.start ev);rw[<-i];exact c3,a5.2.2⟩ (d6 r rfl)).mono ?_;rintro x w7 ⟨rfl,d2,d3⟩;have d4:=zh ((C.alloc C.size _).trans (d3.below (B:=w.heap.size) (by intro k e8;omega) (by have:=C.size;simp at this;simp;omega)));go_wp2_with fail;rw[NF];go_wp2;go_ret;refine⟨_,_,rfl,?_,D,E,d4⟩;rw[show gx (some r) ev fr=some (r.rolled ev) by unfold gx;simp only[PJ];rw[<-i,NH zo]];exact d2
  ·go_wp2_with fail
   rw[NF];go_wp2;go_ret;refine⟨_,_,rfl,?_,D,E,C⟩;rw[show gx (some r) ev fr=none by unfold gx;simp only[PJ];rw[<-i,NB zo]];exact b0
def ph(r:RV)(s:ba)(i:Nat):Option ay:=if (r.start i s.time).2 then some ⟨s.name,(r.start i s.time).1,rR [s.value]⟩ else none
def dG(r:RV)(s:ba)(n k:Nat):List (Option ay):=(List.range n).map λi=>if i<k then ph r s i else none
def Cx(r:RV)(s:ba)(n:Nat):dG r s n 0=List.replicate n none:=by
 refine Pa (by simp[dG]) λi a c=>?_
 simp[dG]
def mu(r:RV)(s:ba)(n k:Nat):(dG r s n k).length=n:=by simp[dG]
def sO(r:RV)(s:ba){n k:Nat}(e:k<n):dG r s n (k+1)=(dG r s n k).set k (ph r s k):=by
 refine Pa (by simp[dG]) λi d a=>?_
 rw[PK];simp only[dG,List.getElem_map,List.getElem_range];by_cases c:k=i
 ·subst c;simp
 ·rw[NB c]
  by_cases a:i<k
  ·rw[NH a,NH zo]
  ·rw[NB a,NB zo]
def Iv(r:RV)(s:ba){n k:Nat}(a:k<n):(dG r s n k).getD k none=none:=by simp[dG,a]
def oD{t e:Int}(d:0<=t)(f:1<=e):0<=bR t e/\bR t e<=t/\lS (bR t e) e=true:=by
 have g:=Qh t (zo:e≠0);have h:=PZ t (zo:0<e);have i:=PC t e;have a:=Int.mul_nonneg (zo:0<=e) (Int.ediv_nonneg d (zo:0<=e));have c:bR t e=e*(t/e):=by unfold bR;rw[NB zo,NH zo];omega
 rw[c];refine⟨a,zo,?_⟩;unfold lS;rw[Int.mul_emod_right,On];exact⟨f,rfl⟩
def Iw{r:RV}{s:ba}{i:Nat}{x:ay}(c:s.good)(n: ∀k,k<r.l.length->aQ (r.l.getD k ah.zero).every/\1<=(r.l.getD k ah.zero).every)(o:i<r.l.length)(a:ph r s i=some x):x.ok/\cI (r.l.getD i ah.zero).every x=true:=by
 obtain⟨j,f⟩:=n i o;unfold ph at a;split at a
 ·rename_i p
  injection a with a
  subst a
  have l:r.start i s.time=(bR s.time (r.l.getD i ah.zero).every,decide (r.from i<=bR s.time (r.l.getD i ah.zero).every)):=by
   unfold RV.start;rw[NH ⟨by unfold RV.is;rw[On];omega,c.2.1.1⟩];rfl
  rw[l];obtain⟨E,m⟩:=zx ((r.l.getD i ah.zero).every);rw[<-m] at j f⊢;have g:=oD (t:=s.time) (e:=E) c.2.1.1 f;have q:=fq c.1;have d:=c.2.2;unfold aQ at d
  have h:(rR [s.value]).ok/\(rR [s.value]).valid=true:=by
   have e:rR [s.value]=dP s.value:=by simp[rR,ea,aF.zero]
   rw[e];refine⟨?_,by simp[aF.valid,dP]⟩;unfold aF.ok dP;refine⟨by dsimp only;omega,by dsimp only;split<;>omega,by dsimp only;omega,d,d⟩
  refine⟨⟨by dsimp only;omega,by unfold aQ;dsimp only;have:=c.2.1;omega,h.1⟩,?_⟩;unfold cI;dsimp only;rw[c.1,h.2,NV g.1,g.2.2];rfl
 ·cases a
section
variable{w w':Qm}{B E t:Nat}{τ:dJ}{tv fv lv:Qn}{ps:List bF}
def Cy{r:RV}{s:ba}{n k:Nat}(a:k<n)(c:(r.start k s.time).2=false):dG r s n (k+1)=dG r s n k:=by
 rw[sO _ _ a,show ph r s k=none by unfold ph;rw[c];rfl];refine Pa zm λi d f=>?_
 rw[PK];split
 ·rename_i e;subst e;simp[dG]
 ·rfl
def Cz(H:Qs (hY w B E t τ tv fv lv ps))(b9:0<τ.tabs.length)(h4:τ.tabs.length<=100)(c1:Qs (aQ τ.r.now))(c2:Qs (∀k,k<τ.r.l.length->aQ (τ.r.l.getD k ah.zero).every/\1<=(τ.r.l.getD k ah.zero).every))(f2:Qs (τ.tabs=List.replicate τ.r.l.length none))(v:Qn)(s:ba)(c3:aB 3 ba.cells w v [s])
 (X:Qs (s.name.size<=9223372036854775807/\aQ s.time/\aQ s.value)) (f3:Qs (τ.r.takes s.name s.time=0)) (f4:Qs s.good):Qo zP 207 #[t,v] w (AT w B E t ⟨τ.r,dG τ.r s τ.r.l.length τ.r.l.length⟩ (.int .i64 0)):=by
 have c4:=zh c3;have c5:=H.len;obtain⟨va,vc,rfl,-,-⟩:=c3;go_enter func207,ntmps207;go_wp2_with fail;refine zb (gO H b9) λf Y=>?_
 have c6:=H.below Y;have b1:=c4.below Y;obtain⟨f5,f6,e,f7,g⟩:=b1.elem (λ_=>rfl) (j:=0) (x:=s) rfl;subst e;have K:=g 0 _ rfl;have L:=g 1 _ rfl;have M:=g 2 _ rfl;simp only[Ox,NR] at K L M;clear g;go_wp2_with fail;refine NM 2 ?_;rw[NF];go_wp2_with fail;obtain⟨Z,N⟩:=zx (f.alloc (.cells #[s.name,(s.time:Int),(s.value:Int)] 42));have a0:=zh (show Z.heap[f.heap.size]?=some (.cells #[s.name,(s.time:Int),(s.value:Int)] 42) by rw[N];exact ag rfl);have O:Qr f.heap.size f Z:=by rw[N];exact ak _ _
 rw[<-N];have B2:=ai Y O;have P:=c6.below O;have c7:=b1.below O;obtain⟨n0,n1,n2⟩:=aW a0;obtain⟨c0,n,q,u,y⟩:=eB P.blk;have f8:=aa a0;have f9:=aa P.blk;clear N O K L M;refine zJ Z 7 (zL [?_,?_,?_,?_,?_,?_,?_]) zq ?_;rotate_right
 iterate 5
  refine zV ?_
 refine aw zk rfl rfl ?_ ?_
 ·intro f a d Q h;have R:=a.2;go_simp;refine zb (nu _ _ s.name s.time s.value _ (P.reach.below a.1) c1 X.1 X.2.1) λb2 C=>?_;rw[f3];exact h.out _ _ zz C
 refine zV ?_;refine zD λJ a d=>?_
 have c8:=ai B2 a.1;have D:=P.below a.1;have c9:=c7.below a.1;clear a d c0 n q u y n0 n1 n2 a0;go_wp2_with fail;rw[NF];obtain⟨g0,g1,e,g2,g⟩:=c9.elem (λ_=>rfl) (j:=0) (x:=s) rfl;injection e with e;injection e with A a1;subst A a1
 have K:=g 0 _ rfl;have L:=g 1 _ rfl;have M:=g 2 _ rfl;simp only[Ox,NR] at K L M;clear g;go_wp2_with fail;refine NM 2 ?_;rw[NF];obtain⟨_,b,o,c,p,rfl,-,-,-,-,-⟩:=D.tabs.elem b9;obtain⟨c0,n,q,u,y⟩:=eB D.blk;have g3:=aa D.blk;go_wp2_with fail;have g4:=aa D.blk;have a2:=ak J (.cells #[s.name,(s.time:Int),(s.value:Int)] 42);have b3:=zh (show hY _ B E t ⟨τ.r,dG τ.r s τ.r.l.length 0⟩ tv fv _ ps by rw[Cx,<-f2];exact D.below a2);have d0:=zh (ag (w:=J) (o:= .cells #[s.name,(s.time:Int),(s.value:Int)] 42) rfl);have d1:=zh (show Ch (λk=>B<=k/\k<E) w _ from Ch.fresh (ai c8 a2));have g5:E<=J.heap.size:=D.iv.2;clear a2;go_loopw [53] (λi wr=> ∃k:Nat,k<=τ.r.l.length/\i= .int .i64 k/\Qs (hY wr B E t ⟨τ.r,dG τ.r s τ.r.l.length k⟩ tv fv (.slice (some ⟨b,o,none⟩) τ.r.l.length c) ps)/\Qs (wr.heap[J.heap.size]?=some (.cells #[s.name,(s.time:Int),(s.value:Int)] 42))/\Qs (Ch (λk=>B<=k/\k<E) w wr)) (λi _=>τ.r.l.length-(intOf i).toNat)
 case atStart=>exact⟨0,Nx _,rfl,by rw[c5] at b3;exact b3,d0,d1⟩
 case round=>
  obtain⟨k,g6,rfl,F,a3,b4⟩:=hrel;obtain⟨c0,n,q,u,y⟩:=eB F.blk;obtain⟨n0,n1,n2⟩:=aW a3;have g7:=aa F.blk;have g8:=aa a3;by_cases m:k<τ.r.l.length
  ·obtain⟨_,g9,o',c',a4,e,-,C,b5,S,T⟩:=F.tabs.elem (i:=k) (by show k<(dG _ _ _ _).length;rw[mu];exact m)
   injection e with A a1 d2;injection A with A;injection A with A d3;subst A d3 d2
   clear a1;dsimp only at T;rw[Iv _ _ m] at T;have d4:=zh (show bN wr _ _ _ [] from T);have b6:=zh b5;obtain⟨I,a5⟩:=zy ((τ.r.start k s.time).1);obtain⟨SB,U⟩:=zy ((τ.r.start k s.time).2);clear T b5;dsimp only at c0 n q u y;go_wp2_with fail;refine zJ wr 13 (zL [?_,?_,?_,?_,?_,?_,?_,?_,?_,?_,?_,?_,?_]) zq ?_;rotate_right
   iterate 7
    refine zV ?_
   refine aw zk rfl rfl ?_ ?_
   ·intro f a d Q h;have R:=a.2;go_simp;refine zb (sC _ _ k s.time _ (F.reach.below a.1) c1 (by unfold aQ;omega) X.2.1) λb2 C=>?_;rw[<-a5,<-U];exact h.out _ _ zz C
   iterate 5
    refine zV ?_
   refine zD λd5 a d=>?_
   have V:=F.below a.1;have W:=zh (ab a3 a.1);have b7:=b4.trans (Ch.fresh a.1);have d6:=d4.below a.1;clear a d c0 n q u y n0 n1 n2 S;obtain⟨c0,n,q,u,y⟩:=eB V.blk;obtain⟨n0,n1,n2⟩:=aW W;have h0:=aa V.blk;have h1:=aa W;cases SB
   ·go_wp2
    go_roundw
    case rel=>exact⟨k+1,m,by go_num,zh (by rw[Cy m (by rw[<-U])];exact V),W,b7⟩
    case measure=>simp[intOf];omega
   ·have a6:=Iw (r:=τ.r) (s:=s) (i:=k) f4 c2 m (x:=(ay.mk s.name I (rR [s.value]))) (by unfold ph;rw[<-U,<-a5];rfl)
    have a7:(dJ.mk τ.r (dG τ.r s τ.r.l.length k)).es.getD k 0=(τ.r.l.getD k ah.zero).every:=by simp[dJ.es,m]
    have b8:=zh a6.1;have d7:=zh (show cI ((dJ.mk τ.r (dG τ.r s τ.r.l.length k)).es.getD k 0) _=true from by rw[a7];exact a6.2);have d8:=zh (show aQ ((dJ.mk τ.r (dG τ.r s τ.r.l.length k)).es.getD k 0) by rw[a7];exact(c2 k m).1);have d9:=zh (show ph τ.r s k=some (ay.mk s.name I (rR [s.value])) by unfold ph;rw[<-U,<-a5];rfl);clear a6 a7;go_wp2_with fail;refine zJ d5 10 (zL [?_,?_,?_,?_,?_,?_]++(Ao [s.value])::zL [?_,?_]++(vS [(ay.mk s.name I (rR [s.value]))]):: []) zq ?_;rotate_right
    iterate 6
     refine zV ?_
    refine aT zk rfl rfl ?_ λh2=>?_
    ·intro f a d Q h;have R:=a.2;go_simp;exact h.out _ _ _ zg (eC (l:= [s.value]) rfl rfl (by intro x S;simp at S;subst S;exact X.2.2) zm) ze
    simp only[zS];refine aw zk rfl rfl ?_ ?_
    ·intro f a d Q h;have R:=a.2;go_simp;refine zb (Kc _ [s.value] _ (d.out 6 zk)) λb2 C=>?_;simp only[aF.val];exact h.out _ _ zz C
    refine zV ?_;refine aT zk rfl rfl ?_ λe0=>?_
    ·intro f a d Q h;have R:=a.2;go_simp;exact h.out _ _ _ zg (bC 7 (c:=1) (l:= [(ay.mk s.name I (rR [s.value]))]) (ag rfl) rfl ⟨Nt 1,zd⟩) ze
    simp only[zS];refine zA λe1 a d=>?_
    have e2:Qs (aB 7 ay.cells e1 e0 [(ay.mk s.name I (rR [s.value]))]):=d.out 9;have e3:=d6.below a.1;have a8:=V.below a.1;have e4:=zh (ab W a.1);have e5:=b7.trans (Ch.fresh a.1);clear d a c0 n q u y n0 n1 n2;go_wp2_with fail;refine(mt e3 d8 e2 b8 d7).mono ?_;rintro e w7 ⟨rfl,e6,a9⟩;have e7:=(a8.tabs.iv k a4 b6).2;have e8:=a8.iv;have e9:=zh (show hY w7 B E t ⟨τ.r,dG τ.r s τ.r.l.length (k+1)⟩ tv fv _ ps by rw[sO _ _ m,d9];exact a8.put (k:=k) (o:=some (ay.mk s.name I (rR [s.value]))) (λh3 b0=>by injection b0 with b0;subst b0;exact b8) b6 a9 e6);have f0:=a9.keep e4 (λe=>by have e:J.heap.size=a4.2:=e;omega);have f1:=e5.trans (a9.mono λj _ e=>by have e:j=a4.2:=e;show B<=j/\j<E;omega);clear e7 e8;go_wp2;go_roundw
    case rel=>exact⟨k+1,m,by go_num,e9,f0,f1⟩
    case measure=>simp[intOf];omega
  ·obtain rfl:k=τ.r.l.length:=zo
   go_wp2_with fail;rw[NF];go_wp2;go_ret;exact⟨rfl,⟨_,_,_,_,F⟩,b4⟩
end
section
variable{w w':Qm}{B E t:Nat}{τ:dJ}{tv fv lv:Qn}{ps:List bF}
def qM(w:Qm)(k:Int)(l:List ay)(e:Qq)(w':Qm):Prop:= ∃u,e= .returned (.tuple #[.agg #[k,u],()])/\Qs (aB 7 ay.cells w' u l)/\Qs (iX w.heap.size u)/\Qs (Qr w.heap.size w w')
def CA(V:hY w B E t τ tv fv lv ps)(c1:0<τ.tabs.length)(d4:τ.tabs.length<=100)(W:aQ τ.r.now)(n:ByteArray)(X:bn n=true)(d:n.size<=1000000)(f g:Int)(c2:0<=f/\f<=g)(Y:g<=9223372036854775807)(a:Nat)(Z:τ.r.cover f=a)(c3:a<τ.tabs.length)(N: ∀r∈τ.tabs.getD a none,r.name=n/\f<=r.start/\r.start<g):
 Qo zP 299 #[t,n,f,g] w (qM w a (τ.tabs.getD a none).toList):=by
 obtain⟨j,O⟩:=zy (τ.tabs.getD a none);rw[<-O] at N⊢;have H:=zh V;have a0:=zh W;have a1:=zh X;have a2:=zh N;have a3:=zh Z;have a4:=zh d;have c4:=zh Y;have P:aQ f:=by unfold aQ;omega
 have a5:=zh P;have c5:=zi (f<0);have c6:=zi (g<f);clear V W X N Z d Y P c2;go_enter func299,ntmps299;go_wp2_with fail;refine zb (gO (H.below ze) c1) λc7 a6=>?_
 obtain⟨Q,m⟩:=bl a6;have a7:=zh Q;have a8:=zh m;have a9:=H.below m;clear Q m;go_wp2_with fail;refine zb (dw _ [n] _ (cG (l:= [n]) zm (by rfl) (by intro s d;simp at d;subst d;have:=a4.out;omega) zm)) λc8 q=>?_
 have B2:=ai a8 (ai ze q);have b0:=zh (ab a7 (ai ze q));have h:=a9.below (ai ze q);rw[show [n].all bn=true by simp[a1.out]];obtain⟨c0,x,y,A,C⟩:=eB h.blk;have D:=aa h.blk;go_wp2_with fail;refine zb (Cj _ τ.r f _ h.reach a0 a5 (by have:=H.len;omega)) λb1 F=>?_
 rw[a3];have R:=ai B2 F;have S:=zh (ab b0 F);have I:=h.below F;clear c0 x y A C D;obtain⟨c0,x,y,A,C⟩:=eB I.blk;have D:=aa I.blk;obtain⟨_,b,o,c,p,rfl,-,c9,b2,b3,J⟩:=I.tabs.elem c3;rw[<-O] at J;have b4:=zh J;clear J b2;go_wp2_with fail;refine(yv b4 n f g a2).mono ?_;rintro e b5 ⟨u,rfl,K,T,U⟩;have b6:=zh (ui K T);have b7:=T.mono R.size;have b8:=ai R U;have i:=zh (ab S U);have d0:w.heap.size<b1.heap.size:=aa S;obtain⟨L,M,rfl,-⟩:=id K;clear c0 x y A C D b3;obtain⟨z0,z1⟩:=bE i;have d1:=ad (o:=0) i;have d2:=ad (o:=1) i;go_wp2_with fail
 have b9:((b5.setCell ⟨w.heap.size,0,none⟩ (.int .i64 a)).setCell ⟨w.heap.size,1,none⟩ (.slice L j.toList.length M)).heap[w.heap.size]?=some (.cells #[(a:Int),.slice L j.toList.length M] 247):=by
  rw[al (al i _) _];rfl
 refine NG (v:= .tuple #[.agg #[(a:Int),.slice L j.toList.length M],()]) (aJ results299 _ _ _ _ _ _ _ _ rfl rfl b9 underlying247 rfl zk) rfl ⟨_,rfl,?_,b7,ao (ao b8 zl) zl⟩;exact ms K b6 zm λk d3 _=>(af _ (by show k≠w.heap.size;omega)).trans (af _ (by show k≠w.heap.size;omega))
end
section
variable{w w':Qm}{B E t:Nat}{τ:dJ}{tv fv lv:Qn}{ps:List bF}
def Fz(H:Qs (hY w B E t τ tv fv lv ps))(N:0<τ.tabs.length)(a1:τ.tabs.length<=100)(O:Qs (aQ τ.r.now))(v:Qn)(s:ba)(u:aB 3 ba.cells w v [s])
 (y:Qs (s.name.size<=9223372036854775807/\aQ s.time/\aQ s.value)) (q:Int) (P:Qs (τ.r.takes s.name s.time=q)) (hq:q≠0):Qo zP 207 #[t,v] w (aK w (.int .i64 q)):=by
 have A:=zh u;have Q:=zh hq;obtain⟨va,vc,rfl,-,-⟩:=u;go_enter func207,ntmps207;go_wp2_with fail;refine zb (gO H N) λa h=>?_
 have C:=H.below h;have m:=A.below h;obtain⟨R,S,e,T,d⟩:=m.elem (λ_=>rfl) (j:=0) (x:=s) rfl;subst e;have n:=d 0 _ rfl;have o:=d 1 _ rfl;have p:=d 2 _ rfl;simp only[Ox,NR] at n o p;clear d;go_wp2_with fail;refine NM 2 ?_;rw[NF];go_wp2_with fail;obtain⟨i,f⟩:=zx (a.alloc (.cells #[s.name,(s.time:Int),(s.value:Int)] 42));have k:=zh (show i.heap[a.heap.size]?=some (.cells #[s.name,(s.time:Int),(s.value:Int)] 42) by rw[f];exact ag rfl);have g:Qr a.heap.size a i:=by rw[f];exact ak _ _
 rw[<-f];have B2:=ai h g;have l:=C.below g;have U:=m.below g;obtain⟨n0,n1,n2⟩:=aW k;obtain⟨c0,D,F,I,J⟩:=eB l.blk;have V:=aa k;have W:=aa l.blk;clear f g n o p;refine zJ i 7 (zL [?_,?_,?_,?_,?_,?_,?_]) zq ?_;rotate_right
 iterate 5
  refine zV ?_
 refine aw zk rfl rfl ?_ ?_
 ·intro a c r X K;have Y:=c.2;go_simp;refine zb (nu _ _ s.name s.time s.value _ (l.reach.below c.1) O y.1 y.2.1) λZ L=>?_;rw[P];exact K.out _ _ zz L
 refine zV ?_;refine zD λa0 c r=>?_
 have M:=ai B2 c.1;clear c r c0 D F I J n0 n1 n2 k;go_wp2;go_ret;exact⟨rfl,M⟩
end
structure PV where
 name:ByteArray
 l:List ah
 src:List Int
def fx(w:Qm)(v:Qn)(P:PV):Prop:= ∃a sv,v= .agg #[P.name,a,sv]/\aH w a P.l/\aE w sv P.src
def fx.below{w w':Qm}{v:Qn}{P:PV}(g:fx w v P)(a:Qr w.heap.size w w'):fx w' v P:=by
 obtain⟨c,sv,d,e,f⟩:=g;exact⟨c,sv,d,e.below a,f.below a⟩
def bO(l:List ah)(k:Nat):Int:=((l.take k).map (·.shards)).sum
def PV.fills(P:PV):Int:=bO P.l P.l.length
def vT(l:List ah):Prop:=l.length<=5/\1<=l.length/\ ∀t∈l,1<=t.shards/\t.shards<=8
def cE{n:ByteArray}{l:List ah}(g:cD n l=true):vT l:=by
 obtain⟨-,⟨c,d⟩,e⟩:=df g;refine⟨d,c,λt f=>?_⟩;obtain⟨i,a,rfl⟩:=PE.1 f;have:=(cZ (e i a)).2.2.1
 rwa [show l.getD i ah.zero=l[i] by simp[a]] at this
def oE{l:List ah}{k:Nat}(a:k<l.length):bO l (k+1)=bO l k+(l.getD k ah.zero).shards:=by
 unfold bO;rw[NE a,NU,List.sum_append];simp[a]
def vU{a:Type}{l:List a}{k:Nat}{d:a}(c:k<l.length):l.getD k d∈l:=by
 rw[Nr,Np c];exact NT c
def kx{l:List ah}(a:vT l): ∀k,k<=l.length->(k:Int)<=bO l k/\bO l k<=8*k
 |0,_=>by simp[bO]
 |k+1,c=>by
  have e:=kx a k zo;rw[oE zo];have f:=a.2.2 _ (vU (d:=ah.zero) (zo:k<l.length));omega
def lC{w:Qm}{v:Qn}{P:PV}(D:fx w v P)(g:Qs (vT P.l)):Qo zP 76 #[v] w (aK w (.int .i64 P.fills)):=by
 obtain⟨E,sv,rfl,e,-⟩:=D;have m:=zh e;have F:=g.1;obtain⟨n,p,rfl,-⟩:=id e;clear e;go_enter func76,ntmps76;go_wp2_with fail;have H:=zh (ag (w:=w) (o:= .cells #[P.name,.slice n P.l.length p,sv] 93) rfl);go_loopw [3,10] (λa i wr=> ∃k:Nat,k<=P.l.length/\i= .int .i64 k/\a= .int .i64 (bO P.l k)/\Qs (Qr w.heap.size w wr)) (λa i _=>P.l.length-(intOf i).toNat)
 case atStart=>exact⟨0,Nx _,rfl,rfl,zh ze⟩
 case round=>
  obtain⟨k,q,rfl,rfl,c⟩:=hrel;by_cases f:k<P.l.length
  ·obtain⟨I,J,rfl,K,⟨r,s,t,u⟩,x,h⟩:=bS (m.below c) f
   have y:=kx g k q;have A:=g.2.2 _ h;have d:=oE f;obtain⟨T,j⟩:=zx (P.l.getD k ah.zero);rw[<-j] at r s t u A d;obtain⟨L,l⟩:=zx (bO P.l k);rw[<-l] at d y⊢;have M:max T.shards 0=T.shards:=zo;have B:=zh d;have C:=aL (o:= .cells #[T.name,(T.every:Int),(T.keep:Int),(T.shards:Int)] 116) c c.size;clear d j l x h;go_wp2;go_roundw
   case rel=>exact⟨k+1,f,by go_num,by rw[B],C⟩
   case measure=>simp[intOf];omega
  ·obtain rfl:k=P.l.length:=zo
   go_wp2;go_ret;exact⟨rfl,c⟩
def PV.steps(P:PV):Int:=P.fills+2
def PV.fills_bd{P:PV}(a:vT P.l):1<=P.fills/\P.fills<=40:=by
 have:=kx a P.l.length zl;have:=a.1;have:=a.2.1;unfold PV.fills;omega
def jj{w:Qm}{v:Qn}{P:PV}(d:fx w v P)(a:Qs (vT P.l)):Qo zP 27 #[v] w (aK w (.int .i64 P.steps)):=by
 have e:=zh d;obtain⟨h,sv,rfl,c,-⟩:=d;have i:=a.2.1;have j:=P.fills_bd a;obtain⟨k,l,rfl,-⟩:=id c;have m:((P.l.length:Int)==0)=false:=by rw[Od];omega
 clear c;go_enter func27,ntmps27;go_wp2_with fail;refine zb (lC (e.below ze) a) λn f=>?_
 have g:=ai ze f;go_wp2;go_ret;exact⟨rfl,g⟩
def PV.bound(P:PV)(n:Int):Int:=2*n+P.fills
def qN{w:Qm}{v:Qn}{P:PV}(g:fx w v P)(c:Qs (vT P.l))(n:Int)(t:0<=n/\n<=1000000):Qo zP 199 #[v,n] w (aK w (.int .i64 (P.bound n))):=by
 have d:=zh g;obtain⟨k,sv,rfl,h,-⟩:=g;have l:=P.fills_bd c;clear h;go_enter func199,ntmps199;go_wp2_with fail;refine zb (lC (d.below ze) c) λm i=>?_
 obtain⟨a,e⟩:=bl i;have f:=zh e;obtain⟨c0,o,p⟩:=aW a;have q:=aa a;have r:=zi (4611686018427387903-P.fills<n);clear a e;go_wp2_with fail;refine zb (lC (d.below f) c) λs j=>?_
 have B2:=ai f j;go_wp2;go_ret;exact⟨rfl,B2⟩
def iu(r:RV)(l:List ah)(ev:Int):Nat->Int
 |0=> -1
 |k+1=>if lS ev (l.getD k ah.zero).every=true/\(iu r l ev k<0\/r.from k<=r.from (iu r l ev k)) then k else iu r l ev k
def mw(r:RV)(l:List ah)(ev:Int): ∀k,-1<=iu r l ev k/\iu r l ev k<k
 |0=>by simp[iu]
 |k+1=>by
  have:=mw r l ev k;unfold iu;split<;>omega
def vV{w:Qm}{b0 b1:Qn}{r:RV}{l:List ah}{ev:Int}(b2:cu w b0 r)(b3:Qs (aH w b1 l))(M:Qs (aQ r.now))(d0:l.length<=5)(N:Qs (aQ ev)):Qo zP 272 #[b0,b1,ev] w (aK w (.int .i64 (iu r l ev l.length))):=by
 have A:=zh b2;obtain⟨a0,a1,rfl,-⟩:=b2;obtain⟨c1,c2,rfl,-⟩:=id b3;go_enter func272,ntmps272;go_wp2_with fail;have b4:=zh (ag (w:=w) (o:= .cells #[(r.now:Int),r.name,a0,a1] 46) rfl);go_loopw [7,12] (λa i wr=> ∃k:Nat,k<=l.length/\i= .int .i64 k/\a= .int .i64 (iu r l ev k)/\Qs (Qr w.heap.size w wr)/\Qs (wr.heap[w.heap.size]?=some (.cells #[(r.now:Int),r.name,a0,a1] 46))) (λa i _=>l.length-(intOf i).toNat)
 case atStart=>exact⟨0,Nx _,rfl,rfl,zh ze,b4⟩
 case round=>
  obtain⟨k,c3,rfl,rfl,D,b5⟩:=hrel;by_cases B:k<l.length
  ·obtain⟨c4,c5,rfl,c6,⟨a2,a3,a4,a5⟩,O,b6⟩:=bS (b3.below D) B
   obtain⟨T,P⟩:=zx (l.getD k ah.zero);rw[<-P] at a2 a3 a4 a5 O;have E:=zh O.2.1;obtain⟨j,Q⟩:=zx (iu r l ev k);have b7:=mw r l ev k;obtain⟨a6,R⟩:=zx (lS ev T.every);have F:=zh R.symm;have m:=zh (show iu r l ev (k+1)=if a6=true/\(j<0\/r.from k<=r.from j) then(k:Int) else j by rw[R,Q,P];rfl);rw[<-Q] at b7⊢;have h:=aL (o:= .cells #[T.name,(T.every:Int),(T.keep:Int),(T.shards:Int)] 116) D D.size;have q:=zh (ab b5 (ak _ (.cells #[T.name,(T.every:Int),(T.keep:Int),(T.shards:Int)] 116)));clear P Q R O b6;go_wp2_with fail;obtain⟨C,S⟩:=zx (wr.alloc (.cells #[T.name,(T.every:Int),(T.keep:Int),(T.shards:Int)] 116));rw[<-S] at h q⊢;have a7:=zh (show C.heap[wr.heap.size]?=some (.cells #[T.name,(T.every:Int),(T.keep:Int),(T.shards:Int)] 116) by rw[S];exact ag rfl);obtain⟨n0,n1,n2,H⟩:=fG a7;obtain⟨c0,I,J,K⟩:=fG q;have c7:=aa a7;have c8:=aa q;clear S a2 a3 a4 a5;cases a6
   ·rw[NB zm] at m
    have s:=trivial;refine zJ C 17 (zL [?_,?_,?_,?_,?_,?_,?_,?_,?_,?_,?_,?_,?_,?_,?_,?_,?_]) zq ?_;rotate_right
    iterate 3
     refine zV ?_
    refine aw zk rfl rfl ?_ ?_
    ·intro n c f p d;have t:=c.2;go_simp;refine(ee _ _ _ N E).mono ?_;rintro e u ⟨rfl,g⟩;have g:=g.symm;subst g;rw[F];exact d.out _ _ zz zr
    refine zV ?_
    iterate 11
     refine aw zk rfl rfl ?_ ?_
     ·intro n c f p d;rw[NB (by simp[Region.wanted,yielded,undef])];exact d.out _ _ (by rfl) zr
     simp only[zS]
    refine zV ?_;refine zD λU c f=>?_
    have v:=ai h c.1;have x:=zh (ab q c.1);clear f c c0 I J K n0 n1 n2 H s;go_wp2;go_roundw
    case rel=>exact⟨k+1,B,by go_num,by rw[m],v,x⟩
    case measure=>simp[intOf];omega
   ·by_cases L:j<0
    ·rw[NH ⟨rfl,.inl L⟩] at m
     have s:decide (j<0)=true:=NV L;refine zJ C 17 (zL [?_,?_,?_,?_,?_,?_,?_,?_,?_,?_,?_,?_,?_,?_,?_,?_,?_]) zq ?_;rotate_right
     iterate 3
      refine zV ?_
     refine aw zk rfl rfl ?_ ?_
     ·intro n c f p d;have t:=c.2;go_simp;refine(ee _ _ _ N E).mono ?_;rintro e u ⟨rfl,g⟩;have g:=g.symm;subst g;rw[F];exact d.out _ _ zz zr
     iterate 4
      refine zV ?_
     iterate 7
      refine aw zk rfl rfl ?_ ?_
      ·intro n c f p d;rw[NB (by simp[Region.wanted,yielded,undef])];exact d.out _ _ (by rfl) zr
      simp only[zS]
     iterate 2
      refine zV ?_
     refine zD λU c f=>?_
     have v:=ai h c.1;have x:=zh (ab q c.1);clear f c c0 I J K n0 n1 n2 H s;go_wp2;go_roundw
     case rel=>exact⟨k+1,B,by go_num,by rw[m],v,x⟩
     case measure=>simp[intOf];omega
    ·obtain⟨V,W⟩:=zy (r.from k)
     obtain⟨X,Y⟩:=zy (r.from j);rw[<-W,<-Y] at m;have a8:aQ j:=by unfold aQ;omega
     have a9:aQ (k:Int):=by unfold aQ;omega
     have c9:=A.below h;by_cases Z:V<=X
     ·rw[NH ⟨rfl,.inr Z⟩] at m
      have b8:decide (V<=X)=true:=NV Z;have s:decide (j<0)=false:=NQ L;refine zJ C 17 (zL [?_,?_,?_,?_,?_,?_,?_,?_,?_,?_,?_,?_,?_,?_,?_,?_,?_]) zq ?_;rotate_right
      iterate 3
       refine zV ?_
      refine aw zk rfl rfl ?_ ?_
      ·intro n c f p d;have t:=c.2;go_simp;refine(ee _ _ _ N E).mono ?_;rintro e u ⟨rfl,g⟩;have g:=g.symm;subst g;rw[F];exact d.out _ _ zz zr
      iterate 6
       refine zV ?_
      refine aw zk rfl rfl ?_ ?_
      ·intro n c f p d;have t:=c.2;go_simp;refine zb (cH _ _ k _ (A.below (h.trans (c.1.mono h.size))) M a9) λu y=>?_;rw[<-W];exact d.out _ _ zz y
      iterate 2
       refine zV ?_
      refine aw zk rfl rfl ?_ ?_
      ·intro n c f p d;have t:=c.2;go_simp;refine zb (cH _ _ j _ (A.below (h.trans (c.1.mono h.size))) M a8) λu y=>?_;rw[<-Y];exact d.out _ _ zz y
      iterate 3
       refine zV ?_
      refine zD λU c f=>?_
      have v:=ai h c.1;have x:=zh (ab q c.1);clear f c c0 I J K n0 n1 n2 H s;go_wp2;go_roundw
      case rel=>exact⟨k+1,B,by go_num,by rw[m],v,x⟩
      case measure=>simp[intOf];omega
     ·rw[NB (by rintro⟨-,b9|b9⟩<;>omega)] at m
      have b8:decide (V<=X)=false:=NQ Z;have s:decide (j<0)=false:=NQ L;refine zJ C 17 (zL [?_,?_,?_,?_,?_,?_,?_,?_,?_,?_,?_,?_,?_,?_,?_,?_,?_]) zq ?_;rotate_right
      iterate 3
       refine zV ?_
      refine aw zk rfl rfl ?_ ?_
      ·intro n c f p d;have t:=c.2;go_simp;refine(ee _ _ _ N E).mono ?_;rintro e u ⟨rfl,g⟩;have g:=g.symm;subst g;rw[F];exact d.out _ _ zz zr
      iterate 6
       refine zV ?_
      refine aw zk rfl rfl ?_ ?_
      ·intro n c f p d;have t:=c.2;go_simp;refine zb (cH _ _ k _ (A.below (h.trans (c.1.mono h.size))) M a9) λu y=>?_;rw[<-W];exact d.out _ _ zz y
      iterate 2
       refine zV ?_
      refine aw zk rfl rfl ?_ ?_
      ·intro n c f p d;have t:=c.2;go_simp;refine zb (cH _ _ j _ (A.below (h.trans (c.1.mono h.size))) M a8) λu y=>?_;rw[<-Y];exact d.out _ _ zz y
      iterate 3
       refine zV ?_
      refine zD λU c f=>?_
      have v:=ai h c.1;have x:=zh (ab q c.1);clear f c c0 I J K n0 n1 n2 H s;go_wp2;go_roundw
      case rel=>exact⟨k+1,B,by go_num,by rw[m],v,x⟩
      case measure=>simp[intOf];omega
  ·obtain rfl:k=l.length:=zo
   go_wp2;go_ret;exact⟨rfl,D⟩
section
variable{P:Program}{ops:Array Oper}{Q:Exit->Act->Qm->Prop}{md:Region.Mode}{S:Qm->Prop}{n:Nat}
def fV{i j:Nat}{o o':Oper}{l:Nat}{e:Array Bool}{a:Act}{w:Qm}(q:ju ops.toList i=some o)(r:ju ops.toList j=some o')(p:Region.ready md ops e= [i,j])
 (s: ∀c:Act->Qm->Prop,Shut (∀a w,S w->(S w->cU P md ops Q S n l (e.setIfInBounds i true) a w)->c a w)->if Region.wanted o (yielded ops a.tmps)=true then Oper.wp P o a w c Q else c (a.put o.dst undef) w)
 (t: ∀c:Act->Qm->Prop,Shut (∀a w,S w->(S w->cU P md ops Q S n l (e.setIfInBounds j true) a w)->c a w)->if Region.wanted o' (yielded ops a.tmps)=true then Oper.wp P o' a w c Q else c (a.put o'.dst undef) w):
 cU P md ops Q S n (l+1) e a w:=by
 refine .inr ⟨(λm=>by rw[p] at m;cases m),λk f=>?_⟩;rw[p] at f;simp only[NL,NJ,Ou] at f;rcases f with rfl|rfl
 ·exact wpOp_step (iC q) (λc g=>s c (λa w d h=>g a w ⟨d,h d⟩))
 ·exact wpOp_step (iC r) (λc g=>t c (λa w d h=>g a w ⟨d,h d⟩))
end
def rX(v:Qn)(W w:Qm):Prop:=Ch (λk=>v.ownBlock=some k) W w/\ ∀b o,b<W.heap.size->v.ownBlock≠some b->w.cell? ⟨b,o,none⟩=W.cell? ⟨b,o,none⟩
section
variable{v v6:Qn}{wS W w w' w7:Qm}{P j n:Nat}{cs:Array Qn}{T E:Qp}{x:Int}{l:List Int}
def um(c:Ch (λk=>v.ownBlock=some k) W w):rX v W w:=⟨c,λb o d e=>World.cell?_of_block (a:=⟨b,o,none⟩) (c.block b d e)⟩
def dH(v:Qn)(W:Qm):rX v W W.drew:=um ⟨rfl,rfl,rfl,Nt _,λ_ _ _=>rfl⟩
def bG(a:rX v W w)(c:Qr w.heap.size w w'):rX v W w':=um (a.1.trans (Ch.fresh c))
def dh(f:rX v W w)(a:w.grownBy w' v.ownBlock):rX v W w':=um (f.1.trans ⟨a.os,a.tape,a.output,a.size,λk c d=>a.block k c (λe=>d e.symm)⟩)
def dK(x:Int):List Qn:= [.int .i64 x]
structure jB(wS w:Qm)(P j:Nat)(cs:Array Qn)(T E:Qp)(k:Nat)(v:Qn)(n:Nat)(xs:List Qn):Prop where
 blk:w.heap[P]?=some (.cells (cs.setIfInBounds j v) T)
 ch:Ch (·=P) wS w
 own:w.ownsRow (P+1) E k v n xs
 lt:P+1=wS.heap.size
 j:j<cs.size
variable{kk:Nat}{xs ys:List Qn}
def jB.start(E:Qp)(kk:Nat)(d:wS.heap[P]?=some (.cells cs T))(e:P+1=wS.heap.size)(f:cs[j]?=some (.slice none 0 0)):jB wS wS P j cs T E kk (.slice none 0 0) 0 []:=by
 obtain⟨a,c⟩:=ON.1 f;exact⟨by rw[d];congr 2;rw[<-c,Array.setIfInBounds_def,dif_pos a];exact(Array.set_getElem_self a).symm,Ch.refl _ _,World.ownsRow_nil _ _ _ _,e,a⟩
def jB.ne(a:jB wS w P j cs T E kk v n xs):v.ownBlock≠some P:=λe=>by have:=(ar a.own e).1;omega
def jB.old(a:jB wS w P j cs T E kk v n xs){b:Nat}(c:b<=P):v.ownBlock≠some b:=λe=>by have:=(ar a.own e).1;omega
def jB.size(a:jB wS w P j cs T E kk v n xs):P<w.heap.size:=aa a.blk
def jB.cell(a:jB wS w P j cs T E kk v n xs):w.cell? ⟨P,j,none⟩=some v:=by
 rw[NA w P _ _ _ _ a.blk];simp[a.j]
def jB.below(a:jB wS w P j cs T E kk v n xs)(c:Qr w.heap.size w w'):jB wS w' P j cs T E kk v n xs:=⟨ab a.blk c,a.ch.trans (Ch.fresh c),aS a.own c,a.lt,a.j⟩
def jB.push(d:jB wS w P j cs T E kk v n xs)(f:rX v w w7){m:Nat}(l:w7.ownsRow (P+1) E kk v6 m ys):
 jB wS (w7.setCell ⟨P,j,none⟩ v6) P j cs T E kk v6 m ys/\w7.cell? ⟨P,j,none⟩=some v/\w7.frozen? ⟨P,j,none⟩=false/\ ∃a c,v6= .slice a m c:=by
 have s:=f.1.size;have o:=d.size;have p:=d.lt;have t:=d.ch.size;have h:=(f.1.block P o d.ne).trans d.blk;refine⟨⟨by rw[al h];simp,?_,?_,p,d.j⟩,by rw[NA _ _ _ _ _ _ h];simp[d.j],ad h,az l⟩
 ·exact aP ⟨f.1.os.trans d.ch.os,f.1.tape.trans d.ch.tape,f.1.output.trans d.ch.output,zo,λk q i=>(f.1.block k zo λe=>by have:=(ar d.own e).1;have i: ¬k=P:=i;omega).trans (d.ch.block k q i)⟩ (.inl rfl)
 ·exact aZ l λg r=>af _ (by have:=(ar l r).1;show g≠P;omega)
end
def dx(r:RV)(l ql:List ah)(k:Nat):List Int:=(ql.take k).map λt=>iu r l t.every l.length
def CB{r:RV}{l ql:List ah}{k:Nat}(a:k<ql.length):dx r l ql (k+1)=dx r l ql k++ [iu r l (ql.getD k ah.zero).every l.length]:=by
 unfold dx;rw[NE a,NU];simp[a]
def qO{r:RV}{l ql:List ah}{k:Nat}(a:k<=ql.length):(dx r l ql k).length=k:=by simp[dx];omega
def my(B:Nat)(w:Qm)(v:Qn)(P:PV):Prop:= ∃a sv,v= .agg #[P.name,a,sv]/\aH w a P.l/\aE w sv P.src/\iX B a/\iX B sv
def Ln(w:Qm)(P:PV)(e:Qq)(w':Qm):Prop:= ∃v,e= .returned (.tuple #[v,()])/\Qs (my w.heap.size w' v P)/\Qs (Qr w.heap.size w w')
def sP(l:List Int):l.flatMap dK=l.map (Value.int .i64):=by
 induction l with
 |nil=>rfl
 |cons x l a=>rw[NZ,Oq,a];rfl
def FA{r:RV}{l ql:List ah}(c:l.length<=5)(k:Nat): ∀x∈dx r l ql k,-9223372036854775808<=x/\x<=9223372036854775807:=by
 intro x a;simp only[dx,OI] at a;obtain⟨t,-,rfl⟩:=a;have:=mw r l t.every l.length;omega
def Kl(w:Qm)(a c d:Obj):(((w.alloc a).alloc c).alloc d).heap[w.heap.size]?=some a/\(((w.alloc a).alloc c).alloc d).heap[w.heap.size+1]?=some c/\(((w.alloc a).alloc c).alloc d).heap[w.heap.size+1+1]?=some d/\Qr w.heap.size w (((w.alloc a).alloc c).alloc d):=
 ⟨ab (ab (ag rfl) ze) ze,ab (ag zm) ze,ag zm,ai (ai ze ze) ze⟩
def Km(w:Qm)(a c d e:Obj):((((w.alloc a).alloc c).alloc d).alloc e).heap[w.heap.size]?=some a/\((((w.alloc a).alloc c).alloc d).alloc e).heap[w.heap.size+1]?=some c/\((((w.alloc a).alloc c).alloc d).alloc e).heap[w.heap.size+1+1]?=some d/\((((w.alloc a).alloc c).alloc d).alloc e).heap[w.heap.size+1+1+1]?=some e/\Qr w.heap.size w ((((w.alloc a).alloc c).alloc d).alloc e):=by
 obtain⟨f,g,h,i⟩:=Kl w a c d;exact⟨ab f ze,ab g ze,ab h ze,ag zm,ai i ze⟩
def sQ{w:Qm}{e2 e3 e4:Qn}{r:RV}{n0 n1:ByteArray}{l ql:List ah}(e5:ie w e2 n0 l)(e6:cu w e3 r)(a3:ie w e4 n1 ql)(e7:Qs (cD n0 l=true))(e8:Qs (cD n1 ql=true))(i6:Qs (aQ r.now)):
 Qo zP 198 #[e2,e3,e4] w (Ln w ⟨n1,ql,dx r l ql ql.length⟩):=by
 have e9:=zh e6;have f0:=zh e5;have a4:=zh a3;obtain⟨f1,f2,f3,f4,f5⟩:=info_parts gi;obtain⟨f6,rfl,a5⟩:=e5;obtain⟨i7,rfl,P⟩:=a3;obtain⟨f7,f8,rfl,-⟩:=e6;have f9:=zh a5;have g0:=zh P;obtain⟨g1,g2,rfl,-⟩:=id P;have i8:=(aN e8).1;have a6:=(aN e7).1;clear a5 P;go_enter func198,ntmps198;go_wp2_with fail;obtain⟨a7,a8,a9,b0,Q⟩:=Km w (.cells #[n0,f6] 32) (.cells #[(r.now:Int),r.name,f7,f8] 46) (.cells #[n1,.slice g1 ql.length g2] 32) (.cells #[.string ⟨#[]⟩,z0,z0] 93);refine zb (eR (n:=n0) (l:=l) (f0.below Q) e7) λi9 s=>?_
 have b1:=zh (ab a7 s);have b2:=zh (ab a8 s);have H:=zh (ab a9 s);have b3:=zh (ab b0 s);have b4:=ai Q s;clear a7 a8 a9 b0 Q;obtain⟨c0,I⟩:=bE H;have J:=aa H;go_wp2_with fail;refine zb (eR (n:=n1) (l:=ql) (a4.below b4) e8) λg3 t=>?_
 have B2:=ai b4 t;have b5:=zh (ab b1 t);have b6:=zh (ab b2 t);have K:=zh (ab H t);have R:=zh (ab b3 t);have j0:=aa R;clear c0 I J b1 b2 H b3;obtain⟨c0,I⟩:=bE K;have J:=aa K;go_wp2_with fail;refine(jO _ n1 ql g3 (a4.below B2) zo).mono ?_;rintro e p ⟨u,rfl,⟨j1,rfl,U,V⟩,f⟩;obtain⟨h,m,rfl,-⟩:=id U;have b7:=zh U;have b8:=zh V;have g4:=ai B2 f;have g5:=zh (ab b5 f);have g6:=zh (ab b6 f);have g7:=zh (ab K f);have b9:=zh (ab R f);clear U V c0 I J b5 b6 K R;have g8:=jB.start (j:=2) 3 1 (ag (w:=p) (o:= .cells #[n1,(.slice h ql.length m),z0] 93) rfl) zm rfl;have c1:=zh (ab g7 (ak _ (.cells #[n1,(.slice h ql.length m),z0] 93)));obtain⟨c0,I⟩:=bE c1;have J:=aa c1;go_wp2_with fail;go_loopw [39] (λi wr=> ∃(k:Nat) (v':Qn),k<=ql.length/\i= .int .i64 k/\Qs (jB (p.alloc (.cells #[n1,(.slice h ql.length m),z0] 93)) wr p.heap.size 2 #[n1,(.slice h ql.length m),z0] 93 3 1 v' k ((dx r l ql k).flatMap dK))) (λi _=>ql.length-(intOf i).toNat)
 case atStart=>exact⟨0,_,Nx _,rfl,g8⟩
 case round=>
  obtain⟨k,v',c2,rfl,d⟩:=hrel;have V:=aa b9;have j2:=d.size;have W:=zh (show∀b (o:Obj),b<p.heap.size->p.heap[b]?=some o->wr.heap[b]?=some o from λb o g9 h0=>(d.ch.block b zu (by show b≠_;omega)).trans ((ze.block b g9).trans h0));have X:=zh (show Qr w.heap.size w wr from(ai g4 ze).trans (d.ch.below (B:=w.heap.size) (by intro j j3;omega) zu));have h1:=g0.below X;by_cases Y:k<ql.length
  ·obtain⟨j4,j5,rfl,j6,⟨c3,c4,c5,c6⟩,Z,-⟩:=bS h1 Y
   obtain⟨T,a0⟩:=zx (ql.getD k ah.zero);rw[<-a0] at c3 c4 c5 c6 Z;have h2:=zh Z.2.1;have h3:=zh (show dx r l ql (k+1)=dx r l ql k++ [iu r l T.every l.length] by rw[a0];exact CB Y);obtain⟨A,L⟩:=zx (wr.alloc (.cells #[T.name,(T.every:Int),(T.keep:Int),(T.shards:Int)] 116));have C:Qr wr.heap.size wr A:=by rw[L];exact ak _ _
   have M:=d.below C;have c7:=zh (show A.heap[wr.heap.size]?=some (.cells #[T.name,(T.every:Int),(T.keep:Int),(T.shards:Int)] 116) by rw[L];exact ag rfl);have c8:=ai X C;have c9:=zh (ab (W _ _ zo g5) C);have d0:=zh (ab (W _ _ zo g6) C);have j7:v'.ownBlock≠some wr.heap.size:=λe=>by have:=(ar d.own e).2.1;omega
   have j8:=d.ne;have j9:=d.old (b:=w.heap.size) zo;have k0:=d.old (b:=w.heap.size+1) zo;clear a0 Z;go_wp2_with fail;rw[<-L];obtain⟨h4,h5,h6,h7⟩:=fG c7;obtain⟨h8,h9⟩:=bE c9;obtain⟨d1,d2,d3,i0⟩:=fG d0;have i1:=M.cell;have k1:=aa c9;have k2:=aa d0;have k3:=aa c7;have k4:=M.size;clear L C c3 c4 c5 c6;refine aC (S:=(rX v' A)) 11 zk ?_ (λa=>?_)
   ·(first|exact dH _ _|exact bG a q|exact bG a ze|exact dh a E)
   refine zT 0 ?_;refine zT 1 ?_;refine zT 2 ?_;refine zT 3 ?_;refine zT 4 ?_;refine zT 5 ?_;refine zT 6 ?_;refine zO 7 λd4 D=>?_
   go_simp;refine zb (vV (e9.below (c8.drew)) (f9.below (c8.drew)) i6 a6 h2) λk5 q=>?_
   refine zE D (by first|exact dH _ _|exact bG a q|exact bG a ze|exact dh a E) λa=>?_
   refine zO 8 λd4 D=>?_
   go_simp
   skip
   refine zE D (by first|exact dH _ _|exact bG a q|exact bG a ze|exact dh a E) λa=>?_
   refine zO 9 λd4 D=>?_
   rw[NH (by simp[Region.wanted])];refine cY (enc:=dK) _ _ 44 rfl (p.heap.size+1) 3 f1 _ 8 underlying44 f2 f3 f4 f5 rfl zd _ _ _ _ [iu r l T.every l.length] rfl (aS (aS M.own (ec q)) ze) rfl (bC 1 (c:=1) (l:= [iu r l T.every l.length]) (ag rfl) rfl ⟨Nt 1,zd⟩) (λ_=>rfl) (by intro x y d5;simp only[dK,NL,NJ,Ou] at d5;subst d5;rfl) (zo:(k+1)*8<140737488355328) zd (by have:=q.size;have hq:A.drew.heap.size=A.heap.size:=rfl;simp;omega) (λk6 w7 d6 E=>?_);refine zE D (by first|exact dH _ _|exact bG a q|exact bG a ze|exact dh a E) λa=>?_
   refine zT 10 ?_;refine zF ?_;obtain⟨d7,k7,k8,k9,l0,rfl⟩:=M.push a d6;have i2:=zh d7;clear d7 a d6 E h4 h5 h6 h7 h8 h9 d1 d2 d3 i0 i1;go_wp2;go_roundw
   case rel=>exact⟨k+1,_,Y,by go_num,by rw[h3,NK];exact i2⟩
   case measure=>simp[intOf];omega
  ·obtain rfl:k=ql.length:=zo
   obtain⟨F,c',rfl⟩:=az d.own;have f:=W _ _ zo b9;obtain⟨d1,d2,d3⟩:=aW d.blk;obtain⟨l1,l2,l3⟩:=aW f;have l4:=ad (o:=0) f;have l5:=ad (o:=1) f;have l6:=ad (o:=2) f;have d8:=bW (.string n1) (.slice h ql.length m) (.slice F ql.length c') f;have a1:=λk (c2:k≠w.heap.size+1+1+1)=>aR (w:=wr) (b:=w.heap.size+1+1+1) (.string n1) (.slice h ql.length m) (.slice F ql.length c') c2
   have a2:w.heap.size<=w.heap.size+1+1+1:=zo;have d9:Qr w.heap.size w (((wr.setCell ⟨w.heap.size+1+1+1,0,none⟩ (.string n1)).setCell ⟨w.heap.size+1+1+1,1,none⟩ (.slice h ql.length m)).setCell ⟨w.heap.size+1+1+1,2,none⟩ (.slice F ql.length c')):=ao (ao (ao X a2) a2) a2;have e0:aH (((wr.setCell ⟨w.heap.size+1+1+1,0,none⟩ (.string n1)).setCell ⟨w.heap.size+1+1+1,1,none⟩ (.slice h ql.length m)).setCell ⟨w.heap.size+1+1+1,2,none⟩ (.slice F ql.length c')) (.slice h ql.length m) ql:=co b7 (fu b7 b8) zu λk a3 i3=>(a1 k zo).trans ((d.ch.block k zu (by show k≠_;omega)).trans (ze.block k i3))
   have N:=aZ d.own λg i4=>a1 g (by have:=(ar d.own i4).1;omega)
   rw[sP] at N;have e1:=gk (l:=dx r l ql ql.length) (by rw[qO zl];exact N) (FA a6 _);have i5:=zh d8;have O:=zh (And.intro d9 (And.intro e0 (And.intro e1 (cP N))));clear d8 a1 d9 e0 N e1;go_wp2;refine NG (v:= .tuple #[.agg #[n1,.slice h ql.length m,.slice F ql.length c'],()]) (aJ results198 _ _ _ _ _ _ _ _ rfl rfl i5 underlying93 rfl zk) rfl ?_;exact⟨_,rfl,⟨_,_,rfl,O.2.1,O.2.2.1,b8.mono zo,O.2.2.2.mono zo⟩,O.1⟩
def oF(P:PV)(r:RV)(i:Nat):Int:=gT (r.from (P.src.getD i 0)) (P.l.getD i ah.zero).every
def cr(P:PV)(r:RV)(k:Nat):List Int:=(List.range k).map (oF P r)
def vW(P:PV)(r:RV)(k:Nat):cr P r (k+1)=cr P r k++ [oF P r k]:=by unfold cr;rw[PB,NU];rfl
def hF(P:PV)(r:RV)(k:Nat):(cr P r k).length=k:=by simp[cr]
def Lo(w:Qm)(l:List Int)(e:Qq)(w':Qm):Prop:= ∃v,e= .returned v/\w'.ownsRow w.heap.size 3 1 v l.length (l.flatMap dK)/\Qr w.heap.size w w'
def yy{w:Qm}{v c4:Qn}{P:PV}{r:RV}(g8:fx w v P)(c5:cu w c4 r)(c6:Qs (aQ r.now))(g9:P.l.length<=5)(t:P.src.length=P.l.length):
 Qo zP 186 #[v,c4] w (Lo w (cr P r P.l.length)):=by
 have a4:=zh c5;obtain⟨h0,sv,rfl,u,A⟩:=g8;obtain⟨B,C,rfl,-⟩:=c5;have a5:=zh u;have D:=zh A;obtain⟨E,H,rfl,-⟩:=id u;obtain⟨I,J,rfl,a6,-⟩:=id A;obtain⟨c7,c8,c9,d0,d1⟩:=info_parts gi;rw[t] at D;have h:=zh t;have d2:=zh a6;clear u A a6;obtain⟨L,K⟩:=zy P.l.length;rw[t,<-K];rw[<-K] at a5 D h g9;clear t;go_enter func186,ntmps186;go_wp2_with fail;have d3:=zh (ab (ag (w:=w) (o:= .cells #[P.name,.slice E L H,.slice I L J] 93) rfl) (ak _ (.cells #[(r.now:Int),r.name,B,C] 46)));have d4:=zh (ag (w:=w.alloc (.cells #[P.name,.slice E L H,.slice I L J] 93)) (o:= .cells #[(r.now:Int),r.name,B,C] 46) (b:=w.heap.size+1) zm);go_loopw [5,13] (λo i wr=> ∃(k:Nat) (M:Option Addr) (N:Nat),k<=L/\i= .int .i64 k/\o= .slice M k N/\Qs (wr.ownsRow (w.heap.size+1+1) 3 1 (.slice M k N) k ((cr P r k).flatMap dK))/\Qs (wr.heap[w.heap.size]?=some (.cells #[P.name,.slice E L H,.slice I L J] 93))/\Qs (wr.heap[w.heap.size+1]?=some (.cells #[(r.now:Int),r.name,B,C] 46))/\Qs (Qr w.heap.size w wr)/\w.heap.size+1+1<=wr.heap.size) (λ_ i _=>L-(intOf i).toNat)
 case atStart=>exact⟨0,none,0,Nx _,rfl,rfl,zh zw,d3,d4,(ai ze ze),zm⟩
 case round=>
  obtain⟨k,M,N,h1,rfl,rfl,a7,O,d5,m,d6⟩:=hrel;by_cases n:k<L
  ·obtain⟨h2,h3,e,h4,⟨a8,a9,b0,b1⟩,Q,-⟩:=bS (l:=P.l) (a5.below m) (by rw[<-K];exact n)
   subst e;obtain⟨T,R⟩:=zx (P.l.getD k ah.zero);rw[<-R] at a8 a9 b0 b1 Q;have d7:=zh Q.2.1;obtain⟨F,p⟩:=zy (r.from (P.src.getD k 0));have b2:=zh (show cr P r (k+1)=cr P r k++ [gT F T.every] by rw[vW,p,R];rfl);obtain⟨S,b3⟩:=zy (gT F T.every);rw[<-b3] at b2;clear R Q;have d8:=D.below m;obtain⟨h5,h6,e,-,-,b4⟩:=d8;injection e with d9 e0 e1;subst d9 e1
   clear e0;obtain⟨e2,h7,rfl,e3,b5⟩:=b4 (λe=>by have:=h.out;rw[e] at this;simp at this;omega);have f:=b5 k (by rw[h];exact n);obtain⟨b6,U⟩:=zx (P.src.getD k 0);rw[<-U] at f p;have e4:=zh (show aQ b6 by rw[U];exact d2 _ (vU (by rw[h];exact n)));obtain⟨g,q⟩:=zx (wr.alloc (.cells #[T.name,(T.every:Int),(T.keep:Int),(T.shards:Int)] 116));have d:Qr wr.heap.size wr g:=by rw[q];exact ak _ _
   have b7:=zh (show g.heap[wr.heap.size]?=some (.cells #[T.name,(T.every:Int),(T.keep:Int),(T.shards:Int)] 116) by rw[q];exact ag rfl);have V:=zh (ab O d);have W:=zh (ab d5 d);have e5:=aS a7 d;have X:=ai m d;have h8:=ae f d;have h9:e2<g.heap.size:=No e3 d.size;obtain⟨c0,Y,Z⟩:=aW O;have b8:=aa O;clear b5 b4 U f;go_wp2_with fail;rw[<-q];clear c0 Y Z b8 a8 a9 b0 b1;obtain⟨c0,Y,Z⟩:=aW V;obtain⟨e6,e7,e8,e9⟩:=fG W;have b8:=aa V;have i0:=aa W;have i1:=aa b7;have f0:w.heap.size+1+1<=g.heap.size:=Nq d6 d.size;clear d q;go_wp2_with fail;refine zJ g 8 (zL [?_,?_,?_,?_,?_,?_,?_,?_]) zq ?_;rotate_right
   iterate 6
    refine zV ?_
   refine aw zk rfl rfl ?_ ?_
   ·intro i2 a b9 i3 f1;have i4:=a.2;go_simp;refine zb (cH _ _ _ _ (a4.below (X.trans (a.1.mono X.size))) c6 e4) λi5 f2=>?_;rw[<-p];exact f1.out _ _ zz f2
   refine zV ?_;refine zD λa0 a b9=>?_
   have a1:=aS e5 a.1;have f3:=ai X a.1;have f4:=zh (ab V a.1);have f5:=zh (ab W a.1);have c1:=zh (ab b7 a.1);have i6:w.heap.size+1+1<=a0.heap.size:=Nq f0 a.1.size;have f6:=zh (show aQ F by rw[p];exact RV.from_I64 a4 c6 b6);clear a b9 c0 Y Z e6 e7 e8 e9;obtain⟨f7,f8,f9,g0⟩:=fG c1;have i7:=aa c1;go_wp2_with fail;refine(Ek _ _ _ f6 d7).mono ?_;rintro e i8 ⟨rfl,g1⟩;subst g1;rw[<-b3];clear f7 f8 f9 g0;go_wp2_with (at_builtin;refine ci (enc:=dK) rfl _ _ 44 rfl (w.heap.size+1+1) 3 c7 _ 8 underlying44 c8 c9 d0 d1 rfl zd _ _ k _ [S] rfl (a1.alloc _) rfl (bC 1 (c:=1) (l:= [S]) (ag rfl) rfl ⟨Nt 1,zd⟩) (λ_=>rfl) ?qc1 ?qc2 zd ?qc3 ?_)
   case qc1=>intro x y f;simp only[dK,NL,NJ,Ou] at f;subst f;rfl
   case qc2=>show(k+1)*8<140737488355328;omega
   case qc3=>simp;omega
   intro g2 w7 a2 s;have c2:=s.size;have i9:a0.heap.size+1<=w7.heap.size:=by simpa using c2
   have a3: ∀j,j<w.heap.size+1+1->w7.heap[j]?=a0.heap[j]?:=λj c3=>by
    rw[s.block j zu (λe=>by have:=(ar a1 e.symm).1;omega),ze.block j zo]
   have g3:=zh ((a3 _ zo).trans f4);have g4:=zh ((a3 _ zo).trans f5);have g5:=zh ((f3.alloc zo (.cells #[(S:Int)] 3)).grown s zu (λj c3=>by have:=(ar a1 c3).1;omega));have g6:=zh (show w7.ownsRow (w.heap.size+1+1) 3 1 g2 (k+1) ((cr P r (k+1)).flatMap dK) by rw[b2,NK];exact a2);obtain⟨j0,j1,rfl⟩:=az a2;have g7:w.heap.size+1+1<=w7.heap.size:=zo;clear a2 s a3 c2;go_wp2;go_roundw
   case rel=>exact⟨k+1,_,_,n,by go_num,rfl,g6,g3,g4,g5,g7⟩
   case measure=>simp[intOf];omega
  ·obtain rfl:k=L:=zo
   go_wp2;go_ret;exact⟨_,rfl,by rw[hF];exact cj a7 zo,m⟩
def PV.fit(P:PV)(r:RV):Prop:=cD P.name P.l=true/\P.src.length=P.l.length/\ ∀i,i<P.l.length->(0<=P.src.getD i 0/\P.src.getD i 0<r.l.length)/\lS (P.l.getD i ah.zero).every (r.l.getD (P.src.getD i 0).toNat ah.zero).every=true
section
variable{w w':Qm}{B E t:Nat}{τ:dJ}{tv fv lv:Qn}{ps:List bF}
def CC{v:Qn}{P:PV}(c6:fx w v P)(a4:Qs (hY w B E t τ tv fv lv ps))(m:Qs (P.fit τ.r))(f5:τ.r.l.length<=5):Qo zP 185 #[v,t] w (aK w (.bool true)):=by
 obtain⟨c7,sv,rfl,o,p⟩:=c6;have q:=zh o;have r:=zh p;obtain⟨c8,c9,rfl,-⟩:=id o;obtain⟨d0,d1,rfl,I,-⟩:=id p;obtain⟨d2,d3,rfl,-⟩:=id a4.tiers.1;have f:=m.2.1;have a5:=(aN m.1).1;rw[f] at r;have d4:=zh I;obtain⟨L,a⟩:=zy P.l.length;have J:=zh (show P.src.length=L by rw[f,a]);rw[f,<-a];rw[<-a] at q r a5;clear o p I f;go_enter func185,ntmps185;go_wp2_with fail;refine zb (eR (n:=P.name) (l:=P.l) ⟨_,rfl,q.below ze⟩ m.1) λs a6=>?_
 obtain⟨g,K⟩:=bl a6;have a7:=zh g;have a8:=zh K;obtain⟨c0,u,x⟩:=aW g;have a9:=aa g;clear g K;go_wp2_with fail;go_loopw [34] (λi wr=> ∃k:Nat,k<=L/\i= .int .i64 k/\Qs (Qr s.heap.size s wr)) (λi _=>L-(intOf i).toNat)
 case atStart=>exact⟨0,Nx _,rfl,zh zr⟩
 case round=>
  obtain⟨k,d5,rfl,y⟩:=hrel;clear c0 u x a9;have B2:=ai a8 y;have M:=zh (ab a7 y);have A:=a4.below B2;obtain⟨c0,u,x⟩:=aW M;have d6:=aa M;by_cases h:k<L
  ·obtain⟨d7,d8,e,d9,⟨N,O,Q,R⟩,C,-⟩:=bS (l:=P.l) (q.below B2) (by rw[<-a];exact h)
   subst e;obtain⟨T,S⟩:=zx (P.l.getD k ah.zero);obtain⟨⟨b0,U⟩,c⟩:=m.2.2 k (by rw[<-a];exact h);obtain⟨e0,e1,e,-,-,V⟩:=r.below B2;injection e with b1 b2 b3;subst b1 b3
   clear b2;obtain⟨e2,e3,rfl,e4,W⟩:=V (λe=>by have:=J.out;rw[e] at this;simp at this;omega);have X:=W k (by rw[J];exact h);obtain⟨d,Y⟩: ∃d:Nat,(d:Int)=P.src.getD k 0:=⟨(P.src.getD k 0).toNat,zo⟩;rw[<-Y] at X b0 U c;have b4:d<τ.r.l.length:=zo;obtain⟨e5,e6,e,e7,⟨Z,a0,a1,a2⟩,D,-⟩:=bS A.tiers.1 b4;subst e;obtain⟨e8,F⟩:=zx (τ.r.l.getD d ah.zero);rw[<-S] at N O Q R C c;rw[Qd,<-F] at c;rw[<-F] at Z a0 a1 a2 D;have b5:=zh C.2.1;have b6:=zh D.2.1;have b7:=zh c;obtain⟨b8,b9,c1,c2,c3⟩:=eB A.blk;have e9:=aa A.blk;have f0:=zi (τ.r.l.length<=d);clear S C D F c W V Y U;go_wp2_with fail;refine zJ wr 34 (zL [?_,?_,?_,?_,?_,?_,?_,?_,?_,?_,?_,?_,?_,?_,?_,?_,?_,?_,?_,?_,?_,?_,?_,?_,?_,?_,?_,?_,?_,?_,?_,?_,?_,?_]) zq ?_;rotate_right
   iterate 31
    refine zV ?_
   refine aw zk rfl rfl ?_ ?_
   ·intro s j a3 f1 c4;have f2:=j.2;go_simp;refine(ee _ _ _ b5 b6).mono ?_;rintro e f3 ⟨rfl,H⟩;have H:=H.symm;subst H;rw[b7];exact c4.out _ _ zz zr
   iterate 2
    refine zV ?_
   refine zD λf4 j a3=>?_
   have c5:=ai y j.1;clear j a3 c0 u x b8 b9 c1 c2 c3 N O Q R Z a0 a1 a2 X;go_wp2;go_roundw
   case rel=>exact⟨k+1,h,by go_num,c5⟩
   case measure=>simp[intOf];omega
  ·go_wp2
   go_ret;exact⟨rfl,B2⟩
end
structure CD where
 kind:Int
 tier:Int
 shard:Int
def CD.val(s:CD):Qn:= .agg #[(s.kind:Int),(s.tier:Int),(s.shard:Int)]
def iN:List ah->Nat->Int->CD
 | [],_,k=>if k=0 then⟨2,0,0⟩ else⟨3,0,0⟩
 |t::l,i,k=>if k<t.shards then⟨1,i,k⟩ else iN l (i+1) (k-t.shards)
def PV.at(P:PV)(k:Int):CD:=iN P.l 0 k
def Ix{w:Qm}{v:Qn}{P:PV}(N:fx w v P)(s:Qs (vT P.l))(k:Int)(a7:0<=k)(a8:k<P.steps):Qo zP 273 #[v,k] w (aK w (.tuple #[(P.at k).val,true])):=by
 have O:=zh N;obtain⟨a9,sv,rfl,t,-⟩:=N;have Q:=zh t;have b0:=s.1;obtain⟨b1,b2,rfl,-⟩:=id t;have R:=P.fills_bd s;have n:P.steps=P.fills+2:=rfl;have b3:=zi (k<0);have S:=zi (P.steps<=k);have U:k<=100:=zo;clear t n R a8;go_enter func273,ntmps273;go_wp2_with fail;refine zb (jj (O.below (ai ze ze)) s) λb4 V=>?_
 obtain⟨q,y,A⟩:=gE V;have b5:=zh q;have W:=zh y;have X:=zh A;obtain⟨c0,Y,Z⟩:=aW q;have a0:=aa q;obtain⟨b6,B⟩:=zx P.steps;rw[<-B] at S⊢;clear q y A B;go_wp2_with fail;go_loopw [1,21] (λa i wr=> ∃(j:Nat) (c:Int),j<=P.l.length/\i= .int .i64 j/\a= .int .i64 c/\(0<=c/\c<=100)/\Qs (P.at k=iN (P.l.drop j) j c)/\Qs (Qr w.heap.size w wr)/\Qs (wr.heap[w.heap.size+1]?=some (.cells #[(),(),()] 97))) (λ_ i _=>P.l.length-(intOf i).toNat)
 case atStart=>exact⟨0,k,Nx _,rfl,rfl,⟨a7,U⟩,zh rfl,X,W⟩
 case round=>
  obtain⟨j,c,b7,rfl,rfl,⟨b8,b9⟩,e,h,d⟩:=hrel;clear c0 Y Z a0;by_cases r:j<P.l.length
  ·obtain⟨c1,c2,rfl,c3,⟨a1,a2,a3,a4⟩,a5,C⟩:=bS (Q.below h) r
   have a6:=s.2.2 _ C
   have n:iN (P.l.drop j) j c=if c<(P.l.getD j ah.zero).shards then⟨1,j,c⟩ else iN (P.l.drop (j+1)) (j+1) (c-(P.l.getD j ah.zero).shards):=by
    rw[Oo r];simp[iN,r]
   rw[n] at e;obtain⟨T,D⟩:=zx (P.l.getD j ah.zero);rw[<-D] at a1 a2 a3 a4 a6 e;have c4:max T.shards 0=T.shards:=zo;have E:=aL (o:= .cells #[T.name,(T.every:Int),(T.keep:Int),(T.shards:Int)] 116) h h.size;have g:=zh (ab d (ak _ (.cells #[T.name,(T.every:Int),(T.keep:Int),(T.shards:Int)] 116)));clear D a5 C n;by_cases F:c<T.shards
   ·rw[NH F] at e
    have f:=bW (.int .i64 1) (.int .i64 j) (.int .i64 c) g;have l:=zh f;have m:=ao (ao (ao (p:=⟨w.heap.size+1,0,none⟩) (u:= .int .i64 1) E (Pd _)) (p:=⟨w.heap.size+1,1,none⟩) (u:= .int .i64 j) (Pd _)) (p:=⟨w.heap.size+1,2,none⟩) (u:= .int .i64 c) (Pd _);have H:=ad (o:=0) g;have I:=ad (o:=1) g;have J:=ad (o:=2) g;obtain⟨K,L,M⟩:=aW g;clear f;go_wp2;refine NG (v:= .tuple #[.agg #[(1:Int),(j:Int),c],true]) (aJ results273 _ _ _ _ _ _ _ _ rfl rfl l underlying97 rfl zk) rfl ⟨?_,m⟩;rw[e];rfl
   ·rw[NB F] at e
    go_wp2;go_roundw
    case rel=>exact⟨j+1,_,r,by go_num,rfl,⟨zo,zo⟩,e,E,g⟩
    case measure=>simp[intOf];omega
  ·obtain rfl:j=P.l.length:=zo
   rw[OQ zl] at e;by_cases x:c=0
   ·subst x
    have f:=bW (.int .i64 2) (.int .i64 0) (.int .i64 0) d;have l:=zh f;have m:=ao (ao (ao (p:=⟨w.heap.size+1,0,none⟩) (u:= .int .i64 2) h (Pd _)) (p:=⟨w.heap.size+1,1,none⟩) (u:= .int .i64 0) (Pd _)) (p:=⟨w.heap.size+1,2,none⟩) (u:= .int .i64 0) (Pd _);have H:=ad (o:=0) d;have I:=ad (o:=1) d;have J:=ad (o:=2) d;obtain⟨K,L,M⟩:=aW d;clear f;go_wp2;refine NG (v:= .tuple #[.agg #[(2:Int),(),()],true]) (aJ results273 _ _ _ _ _ _ _ _ rfl rfl l underlying97 rfl zk) rfl ⟨?_,m⟩;rw[e];rfl
   ·have c5:(c==0)=false:=by rw[Od];exact x
    have f:=bW (.int .i64 3) (.int .i64 0) (.int .i64 0) d;have l:=zh f;have m:=ao (ao (ao (p:=⟨w.heap.size+1,0,none⟩) (u:= .int .i64 3) h (Pd _)) (p:=⟨w.heap.size+1,1,none⟩) (u:= .int .i64 0) (Pd _)) (p:=⟨w.heap.size+1,2,none⟩) (u:= .int .i64 0) (Pd _);have H:=ad (o:=0) d;have I:=ad (o:=1) d;have J:=ad (o:=2) d;obtain⟨K,L,M⟩:=aW d;clear f;go_wp2;refine NG (v:= .tuple #[.agg #[(3:Int),(),()],true]) (aJ results273 _ _ _ _ _ _ _ _ rfl rfl l underlying97 rfl zk) rfl ⟨?_,m⟩;rw[e];unfold iN;rw[NB x];rfl
def cm(f:Nat->Option ay)(n k:Nat):List (Option ay):=(List.range n).map λi=>if i<k then f i else none
def lD(f:Nat->Option ay)(n:Nat):cm f n 0=List.replicate n none:=by
 refine Pa (by simp[cm]) λi a c=>?_
 simp[cm]
def gQ(f:Nat->Option ay)(n k:Nat):(cm f n k).length=n:=by simp[cm]
def lE(f:Nat->Option ay){n k:Nat}(e:k<n):cm f n (k+1)=(cm f n k).set k (f k):=by
 refine Pa (by simp[cm]) λi d a=>?_
 rw[PK];simp only[cm,List.getElem_map,List.getElem_range];by_cases c:k=i
 ·subst c;simp
 ·rw[NB c]
  by_cases a:i<k
  ·rw[NH a,NH zo]
  ·rw[NB a,NB zo]
def vX(f:Nat->Option ay){n k:Nat}(a:k<n):(cm f n k).getD k none=none:=by simp[cm,a]
def PV.reach(P:PV)(r:RV):RV:=⟨r.now,P.name,P.l,cr P r P.l.length⟩
def PV.tab(P:PV)(τ:dJ)(i:Nat):Option ay:=gx (τ.tabs.getD (P.src.getD i 0).toNat none) (P.l.getD i ah.zero).every ((P.reach τ.r).from i)
def PV.built(P:PV)(τ:dJ):dJ:=⟨P.reach τ.r,cm (P.tab τ) P.l.length P.l.length⟩
structure PV.can(P:PV)(τ:dJ):Prop where
 fit:P.fit τ.r
 fl:iM P.l (cr P τ.r P.l.length)
 now:0<=τ.r.now/\τ.r.now<=1099511627776
 es: ∀k,k<τ.r.l.length->1<=(τ.r.l.getD k ah.zero).every/\(τ.r.l.getD k ah.zero).every<=1000000
 pe: ∀k,k<P.l.length->1<=(P.l.getD k ah.zero).every/\(P.l.getD k ah.zero).every<=1000000
 recs: ∀i,i<P.l.length-> ∀x∈τ.tabs.getD (P.src.getD i 0).toNat none,cI (P.l.getD i ah.zero).every (x.rolled (P.l.getD i ah.zero).every)=true
 five:τ.r.l.length<=5/\1<=τ.r.l.length
def hY.mono{w:Qm}{B E t B2 E2:Nat}{τ:dJ}{tv fv lv:Qn}{ps:List bF}(a:hY w B E t τ tv fv lv ps)(c:B2<=B)(d:E<=E2)(e:E2<=w.heap.size):hY w B2 E2 t τ tv fv lv ps:=
 ⟨a.blk,⟨a.tiers.1,a.tiers.2.mono c zl⟩,⟨a.floors.1,a.floors.2.mono c zl⟩,a.tabs.mono zl d,a.len,by have:=a.iv;omega⟩
def AV{o:Option ay}{e f:Int}(h:rS o)(i: ∀x∈o,cI e (x.rolled e)=true)(j:1<=e/\e<=1000000): ∀r∈gx o e f,r.ok/\cI e r=true/\f<=r.start:=by
 intro r a;cases o with
 |none=>cases a
 |some x=>
  unfold gx at a;simp only[PJ] at a;split at a
  ·rename_i d
   injection a with a
   subst a;have c:=h x rfl;have g:=i x rfl;refine⟨⟨c.1,?_,c.2.2⟩,g,d⟩;exact gU _ _ c.2.1 zo
  ·cases a
def Kn(B:Nat)(l:List Int):br kM:= .rel (λv w=>w.ownsRow B 3 1 v l.length (l.flatMap dK)) (λ_ _ _ a c=>aS a c)
def Iy(B:Nat)(τ:dJ):br kM:= .rel (λv w=> ∃t a c,v= .tuple #[.pointer (some ⟨t,0,none⟩),.int .i64 0]/\B<=a/\dY w a c t τ) (λ_ _ _ d e=>by obtain⟨t,a,c,f,g,h⟩:=d;exact⟨t,a,c,f,g,h.below e⟩)
def FB(B:Nat)(τ:dJ):br kM:= .rel (λv w=> ∃t a c,v= .pointer (some ⟨t,0,none⟩)/\B<=a/\dY w a c t τ) (λ_ _ _ d e=>by obtain⟨t,a,c,f,g,h⟩:=d;exact⟨t,a,c,f,g,h.below e⟩)
def ei{w:Qm}{B:Nat}{v:Qn}{l:List Int}(a:w.ownsRow B 3 1 v l.length (l.flatMap dK))(c: ∀x∈l,-9223372036854775808<=x/\x<=9223372036854775807):aE w v l:=by
 rw[sP] at a;exact gk a c
section
variable{w w':Qm}{B E t:Nat}{τ:dJ}{tv fv lv:Qn}{ps:List bF}
def hI{v:Qn}{P:PV}(g0:fx w v P)(H:Qs (hY w B E t τ tv fv lv ps))(f:Qs (P.can τ)):Qo zP 121 #[v,.pointer (some ⟨t,0,none⟩)] w (Fx w (P.built τ)):=by
 have a0:=zh g0;obtain⟨l0,sv,rfl,b1,b2⟩:=g0;have b3:=zh b1;have b4:=zh b2;obtain⟨g1,g2,rfl,-⟩:=id b1;obtain⟨g3,g4,rfl,g5,-⟩:=id b2;have a1:=f.fit.2.1;have d5:=(aN f.fit.1).1;have N:=zh (show aQ τ.r.now by have:=f.now;unfold aQ;omega);rw[a1] at b4 a0;obtain⟨L,n⟩:=zy P.l.length;have b5:=zh (show P.src.length=L by rw[a1,n])
 have g6:=zh (show∀x∈cr P τ.r P.l.length,-9223372036854775808<=x/\x<=9223372036854775807 by
  intro x d6;simp only[cr,OI,OT] at d6;obtain⟨i,g7,rfl⟩:=d6;have:=f.pe i g7;exact BI _ _ (RV.from_I64 H.reach N _) zo)
 rw[a1,<-n];rw[<-n] at b3 b4 d5 a0;clear b1 b2 g5 a1;go_enter func121,ntmps121;go_wp2_with fail;refine zb (CC (a0.below ze) (H.below ze) f.fit f.five.1) λo g8=>?_
 obtain⟨a2,b6⟩:=bl g8;have d7:=zh a2;have b7:=zh b6;have b8:=H.below b6;obtain⟨c0,O,Q⟩:=aW a2;obtain⟨b9,c1,c2,c3,c4⟩:=eB b8.blk;have g9:=aa b8.blk;have h0:=aa a2;clear a2 b6;go_wp2_with fail;refine zJ o 19 (zL [?_,?_,?_,?_,?_,?_,?_,?_,?_,?_,?_,?_]++(Kn o.heap.size (cr P τ.r P.l.length))::(Iy o.heap.size (dJ.empty (P.reach τ.r)))::(Iy o.heap.size (dJ.empty (P.reach τ.r)))::(FB o.heap.size (dJ.empty (P.reach τ.r)))::zL [?_]++(FB o.heap.size (dJ.empty (P.reach τ.r)))::zL [?_]) zq ?_;rotate_right
 iterate 12
  refine zV ?_
 refine aT zk rfl rfl ?_ λh1=>?_
 ·intro g a c q d;have s:=a.2;go_simp;refine(yy (a0.below (ai b7 a.1)) (b8.reach.below a.1) N (by rw[<-n];exact d5) (by rw[b5,n])).mono ?_;rintro e R ⟨u,rfl,S,m⟩;exact d.out _ _ _ zg (cj S a.1.size) m
 simp only[zS];refine aT zk rfl rfl ?_ λl1=>?_
 ·intro g a c q d;have s:=a.2;go_simp;have h2:g.ownsRow _ 3 1 h1 _ _:=c.out 12 zk;refine(kw (r:=P.reach τ.r) (b3.below (ai b7 a.1)) (ei h2 g6) f.fit.1 f.now f.fl).mono ?_;rintro e R ⟨I,rfl,S,m⟩;exact d.out _ _ _ zg ⟨_,_,_,rfl,a.1.size,S⟩ m
 simp only[zS];refine aT zk rfl rfl ?_ λd8=>?_
 ·intro g a c q d;have s:=a.2;go_simp;exact d.out _ _ _ zg (c.out 13 zk) zr
 simp only[zS];refine aT zk rfl rfl ?_ λl2=>?_
 ·intro g a c q d;have s:=a.2;go_simp;obtain⟨I,B2,E2,rfl,U,V⟩: ∃t A W,d8= .tuple #[.pointer (some ⟨t,0,none⟩),.int .i64 0]/\o.heap.size<=A/\dY g A W t (dJ.empty (P.reach τ.r)):=c.out 14 zk;go_simp;exact d.out _ _ _ zg ⟨_,_,_,rfl,U,V⟩ zr
 simp only[zS];refine aw zk rfl rfl ?_ ?_
 ·intro g a c q d;have s:=a.2;go_simp;obtain⟨I,B2,E2,rfl,U,V⟩: ∃t A W,d8= .tuple #[.pointer (some ⟨t,0,none⟩),.int .i64 0]/\o.heap.size<=A/\dY g A W t (dJ.empty (P.reach τ.r)):=c.out 14 zk;go_simp;exact d.out _ _ zz zr
 refine aT zk rfl rfl ?_ λc5=>?_
 ·intro g a c q d;have s:=a.2;go_simp;exact d.out _ _ _ zg (c.out 15 zk) zr
 simp only[zS];refine zV ?_;refine zD λd9 a c=>?_
 obtain⟨I,B2,E2,h3,l3,h4,h5,h6,h7,V⟩: ∃t A W,c5= .pointer (some ⟨t,0,none⟩)/\o.heap.size<=A/\dY d9 A W t (dJ.empty (P.reach τ.r)):=c.out 17;subst h3;have h8:=ai b7 a.1;have c6:=zh (ab d7 a.1);have h9:=zh (show hY d9 B2 E2 I ⟨P.reach τ.r,cm (P.tab τ) P.l.length 0⟩ h4 h5 h6 h7 by rw[lD];exact V);have l4:=aa d7;clear c a V c0 O Q b9 c1 c2 c3 c4 g9 h0;obtain⟨c0,O,Q⟩:=aW c6;have i0:=aa c6;go_wp2_with fail;go_loopw [37] (λi wr=> ∃k:Nat,k<=L/\i= .int .i64 k/\Qs (dY wr B2 E2 I ⟨P.reach τ.r,cm (P.tab τ) P.l.length k⟩)/\Qs (Qr w.heap.size w wr)/\Qs (wr.heap[w.heap.size]?=some (.cells #[.string P.name,.slice g1 L g2,.slice g3 L g4] 93))) (λi _=>L-(intOf i).toNat)
 case atStart=>exact⟨0,Nx _,rfl,zh ⟨_,_,_,_,h9⟩,h8,c6⟩
 case round=>
  obtain⟨k,l5,rfl,i1,a3,i2⟩:=hrel;obtain⟨l6,l7,l8,l9,e0⟩:=i1.out;have c7:=zh e0;clear c0 O Q i0 e0;by_cases c8:k<L
  ·have C:k<P.l.length:=by rw[<-n];exact c8
   obtain⟨m0,m1,e,m2,⟨e1,e2,e3,e4⟩,c9,-⟩:=bS (l:=P.l) (b3.below a3) C;subst e;obtain⟨T,a4⟩:=zx (P.l.getD k ah.zero);have i3:=zh (show T.every=(P.l.getD k ah.zero).every by rw[a4]);obtain⟨⟨i4,e5⟩,X⟩:=f.fit.2.2 k C;have d0:=f.pe k C;have J:=f.recs k C;obtain⟨m3,m4,e,-,-,e6⟩:=b4.below a3;injection e with i5 i6 i7;subst i5 i7
   clear i6;obtain⟨i8,m5,rfl,i9,e7⟩:=e6 (λe=>by have:=b5.out;rw[e] at this;simp at this;omega);have Y:=e7 k (by rw[b5];exact c8);obtain⟨h,d1⟩: ∃h:Nat,(h:Int)=P.src.getD k 0:=⟨(P.src.getD k 0).toNat,zo⟩;have e8:=zh (show P.tab τ k=gx (τ.tabs.getD h none) T.every ((P.reach τ.r).from k) by unfold PV.tab;rw[<-d1,Qd,a4]);rw[<-d1] at Y i4 e5 X J;rw[Qd] at X J;have d2:h<τ.r.l.length:=zo;rw[<-a4] at e1 e2 e3 e4 c9 X d0 J;have e9:=f.es h d2;obtain⟨D,a5⟩:=zy (τ.tabs.getD h none);obtain⟨F,a6⟩:=zy ((P.reach τ.r).from k);rw[<-a5,<-a6] at e8;rw[<-a5] at J;have f0:=zh J;have j0:=zh X;have j1:=zh e9;have m6:=zh c9.2.1;have f1:=zh (show τ.es.getD h 0=(τ.r.l.getD h ah.zero).every by simp[dJ.es,d2]);have j2:h<τ.tabs.length:=by rw[H.len];exact d2
   have d3:=H.tabs.okD h;rw[<-a5] at d3;have f2:=zh d3;have j3:τ.tabs.length<=100:=by have:=f.five.1;rw[H.len];omega
   obtain⟨a7,a8⟩:=zx (wr.alloc (.cells #[.string T.name,.int .i64 T.every,.int .i64 T.keep,.int .i64 T.shards] 116));have K:Qr wr.heap.size wr a7:=by rw[a8];exact ak _ _
   have f3:=zh (show a7.heap[wr.heap.size]?=some (.cells #[.string T.name,.int .i64 T.every,.int .i64 T.keep,.int .i64 T.shards] 116) by rw[a8];exact ag rfl);have d4:=zh (ab i2 K);have f4:=ai a3 K;have Z:=c7.below K;have j4:=H.below f4;have j5:=ae Y K;have m7:i8<a7.heap.size:=No i9 K.size;clear a4 e7 e6 d1 J e5 X e9 c9 d3 Y;go_wp2_with fail;rw[<-a8];clear e1 e2 e3 e4 K a8;obtain⟨c0,O,Q⟩:=aW d4;obtain⟨b9,c1,c2,c3,c4⟩:=eB Z.blk;obtain⟨n0,n1,n2,j6⟩:=fG f3;have m8:=aa d4;have m9:=aa Z.blk;have n3:=aa f3;have j7:aQ (k:Int):=by unfold aQ;omega
   refine zJ a7 19 (zL [?_,?_,?_,?_,?_,?_,?_,?_]++(Iu 0 (τ.es.getD h 0) D)::zL [?_,?_,?_,?_,?_,?_,?_,?_]++(Iu 0 T.every (gx D T.every F))::(vS (gx D T.every F).toList):: []) zq ?_;rotate_right
   iterate 8
    refine zV ?_
   refine aT zk rfl rfl ?_ λj8=>?_
   ·intro g a c q d;have s:=a.2;go_simp;refine(lA (j4.below a.1) h j2 j3).mono ?_;rintro e R ⟨p,b,rfl,M,-,-,m⟩;rw[<-a5] at M;exact d.out _ _ _ zg ⟨p,b,rfl,Nx _,Nx _,M⟩ m
   simp only[zS]
   iterate 7
    refine zV ?_
   refine aw zk rfl rfl ?_ ?_
   ·intro g a c q d;have s:=a.2;go_simp;refine zb (cH _ (P.reach τ.r) k _ (Z.reach.below a.1) N j7) λR m=>?_;rw[<-a6];exact d.out _ _ zz m
   refine aT zk rfl rfl ?_ λc5=>?_
   ·intro g a c q d;have s:=a.2;go_simp;obtain⟨p,b,rfl,-,-,M⟩: ∃p b,j8= .pointer (some ⟨p,0,none⟩)/\0<=p/\0<=b/\bN g p (τ.es.getD h 0) b (fH D):=c.out 8 zk;refine(Cw M f2 (by rw[f1];exact j1) d0 (by rw[f1];exact j0) (by rw[a6];exact RV.from_I64 Z.reach N k) f0).mono ?_;rintro e R ⟨j9,k0,rfl,k1,-,-,m⟩;exact d.out _ _ _ zg ⟨j9,k0,rfl,Nx _,Nx _,k1⟩ m
   simp only[zS];refine aT zk rfl rfl ?_ λf5=>?_
   ·intro g a c q d;have s:=a.2;go_simp;obtain⟨p,b,rfl,-,-,M⟩: ∃p b,c5= .pointer (some ⟨p,0,none⟩)/\0<=p/\0<=b/\bN g p T.every b (fH (gx D T.every F)):=c.out 17 zk;refine(ft M).mono ?_;rintro e R ⟨u,rfl,S,m⟩;exact d.out _ _ _ zg (aB.own S).1 m
   simp only[zS];refine zA λk2 a c=>?_
   have k3:Qs (aB 7 ay.cells k2 f5 (gx D T.every F).toList):=c.out 18;have k4:=Z.below a.1;have f6:=ai f4 a.1;have k5:=zh (ab d4 a.1);clear c a c0 O Q b9 c1 c2 c3 c4 n0 n1 n2 j6 j5;go_wp2_with fail;have a9:(cm (P.tab τ) P.l.length k).length=P.l.length:=gQ _ _ _
   have f7: ∀j,j<(cm (P.tab τ) P.l.length k).length->aQ ((dJ.mk (P.reach τ.r) (cm (P.tab τ) P.l.length k)).es.getD j 0):=λj b0=>by
    rw[a9] at b0;have:=f.pe j b0;rw[show(dJ.mk (P.reach τ.r) (cm (P.tab τ) P.l.length k)).es.getD j 0=(P.l.getD j ah.zero).every by simp[dJ.es,PV.reach,b0]];unfold aQ;omega
   have f8: ∀r∈gx D T.every F,r.ok/\cI ((dJ.mk (P.reach τ.r) (cm (P.tab τ) P.l.length k)).es.getD k 0) r=true/\(P.reach τ.r).from k<=r.start:=by
    intro y Y;rw[show(dJ.mk (P.reach τ.r) (cm (P.tab τ) P.l.length k)).es.getD k 0=T.every by rw[i3];simp[dJ.es,PV.reach,C],<-a6];exact AV f2 f0 d0 y Y
   refine(lB k4 k (by show k<(cm _ _ _).length;rw[a9];exact C) (by show(cm _ _ _).length<=100;rw[a9,<-n];omega) N f7 (vX _ C) f5 _ k3 f8).mono ?_;rintro e w7 ⟨rfl,k6,f9⟩;have k7:=zh (show dY w7 B2 E2 I ⟨P.reach τ.r,cm (P.tab τ) P.l.length (k+1)⟩ by rw[lE _ C,e8];exact k6);have k8:=f6.trans (f9.below (B:=w.heap.size) (by intro j b0;omega) f6.size);have k9:=f9.keep k5 (by show¬(_/\_);omega);clear a9 f7 f8;go_wp2;go_roundw
   case rel=>exact⟨k+1,c8,by go_num,k7,k8,k9⟩
   case measure=>simp[intOf];omega
  ·obtain rfl:k=L:=zo
   go_wp2;go_ret2;refine⟨_,rfl,?_,a3⟩;have U:=c7.mono (B2:=w.heap.size) (E2:=wr.heap.size) zo c7.iv.2 zl;rw[<-n] at U;unfold PV.built;rw[<-n];exact⟨_,_,_,_,U⟩
end
structure el where
 P:PV
 bound:Int
 done:Int
 tabs:List (Option ay)
def el.es(σ:el):List Int:=σ.P.l.map (·.every)
structure mS(w:Qm)(B E s:Nat)(σ:el)(tv sv lv:Qn)(ps:List bF):Prop where
 blk:w.heap[s]?=some (.cells #[.string σ.P.name,tv,sv,.int .i64 σ.bound,.int .i64 σ.done,lv] 95)
 tiers:aH w tv σ.P.l/\Sl B s tv σ.P.l.length
 src:aE w sv σ.P.src/\Sl B s sv σ.P.src.length
 tabs:dX w (s+1) E lv σ.es σ.tabs ps
 len:σ.tabs.length=σ.P.l.length
 iv:(B<=s/\s<E)/\E<=w.heap.size
def nH(w:Qm)(B E s:Nat)(σ:el):Prop:= ∃tv sv lv ps,mS w B E s σ tv sv lv ps
section
variable{w w' w0 w5:Qm}{B E s:Nat}{σ:el}{tv sv lv v:Qn}{ps:List bF}
def mS.step(a:mS w B E s σ tv sv lv ps)(d:w.heap.size<=w'.heap.size)(e: ∀k,B<=k->k<E->w'.heap[k]?=w.heap[k]?):mS w' B E s σ tv sv lv ps:=
 ⟨(e s a.iv.1.1 a.iv.1.2).trans a.blk,⟨co a.tiers.1 a.tiers.2 d (λk c f=>e k c (by have:=a.iv;omega)),a.tiers.2⟩,⟨da a.src.1 a.src.2 d (λk c f=>e k c (by have:=a.iv;omega)),a.src.2⟩,a.tabs.step d (λk c f=>e k (by have:=a.iv;omega) f),a.len,a.iv.1,Nq a.iv.2 d⟩
def mS.below(a:mS w B E s σ tv sv lv ps)(c:Qr w.heap.size w w'):mS w' B E s σ tv sv lv ps:=a.step c.size λk _ d=>c.block k (by have:=a.iv.2;omega)
def mS.plan(a:mS w B E s σ tv sv lv ps):fx w (.agg #[σ.P.name,tv,sv]) σ.P:=⟨tv,sv,rfl,a.tiers.1,a.src.1⟩
def nH.step(a:nH w B E s σ)(d:w.heap.size<=w'.heap.size)(e: ∀k,B<=k->k<E->w'.heap[k]?=w.heap[k]?):nH w' B E s σ:=by
 obtain⟨tv,c,lv,ps,a⟩:=a;exact⟨tv,c,lv,ps,a.step d e⟩
def nH.below(a:nH w B E s σ)(d:Qr w.heap.size w w'):nH w' B E s σ:=by
 obtain⟨tv,c,lv,ps,a⟩:=a;exact⟨tv,c,lv,ps,a.below d⟩
def di{w:Qm}{b:Nat}{T:Qp}{a c d e f g:Qn}(h:w.heap[b]?=some (.cells #[a,c,d,e,f,g] T)):
 w.cell? ⟨b,0,none⟩=some a/\w.cell? ⟨b,1,none⟩=some c/\w.cell? ⟨b,2,none⟩=some d/\w.cell? ⟨b,3,none⟩=some e/\w.cell? ⟨b,4,none⟩=some f/\w.cell? ⟨b,5,none⟩=some g:=by
 refine⟨?_,?_,?_,?_,?_,?_⟩<;>(rw[NA w b _ _ _ _ h];rfl)
structure kW(w0 w:Qm)(s:Nat)(σ:el)(tv sv lv:Qn)(ps:List bF):Prop where
 blk:w.heap[s]?=some (.cells #[.string σ.P.name,tv,sv,.int .i64 σ.bound,.int .i64 σ.done,lv] 95)
 tiers:aH w tv σ.P.l/\Sl w0.heap.size s tv σ.P.l.length
 src:aE w sv σ.P.src/\Sl w0.heap.size s sv σ.P.src.length
 tabs:ew w (s+1) lv σ.es σ.tabs ps
 len:σ.tabs.length=σ.P.l.length
 bel:Qr w0.heap.size w0 w
 ge:w0.heap.size<=s
def kW.at(a:kW w0 w s σ tv sv lv ps):mS w w0.heap.size w.heap.size s σ tv sv lv ps:=
 ⟨a.blk,a.tiers,a.src,a.tabs.done,a.len,⟨a.ge,aa a.blk⟩,Nt _⟩
def kW.below(a:kW w0 w s σ tv sv lv ps)(c:Qr w.heap.size w w'):kW w0 w' s σ tv sv lv ps:=
 ⟨ab a.blk c,⟨a.tiers.1.below c,a.tiers.2⟩,⟨a.src.1.below c,a.src.2⟩,a.tabs.below c,a.len,a.bel.trans (c.mono a.bel.size),a.ge⟩
def el.empty(P:PV)(bound done:Int):el:=⟨P,bound,done,List.replicate P.l.length none⟩
def nF.shadow{P:PV}{bound done:Int}{p:Nat}(j:w5.heap.size=p)(c:nF (w5.alloc (.cells #[P.name,tv,sv,bound,done,z0] 95)) w p 5 #[P.name,tv,sv,bound,done,z0] 95 v (P.l.map (·.every)) (List.replicate P.l.length none) ps)
 (f:aH w5 tv P.l) (h:iX w0.heap.size tv) (g:aE w5 sv P.src) (i:iX w0.heap.size sv) (d:Qr w0.heap.size w0 w5):kW w0 w p (el.empty P bound done) tv sv v ps:=by
 subst j;have l:=c.size;have a: ∀k,k<w5.heap.size->w.heap[k]?=w5.heap[k]?:=λk a=>(c.ch.block k zu (by show k≠_;omega)).trans (ze.block k a)
 exact⟨c.blk,⟨co f (fu f h) zo (λk _ e=>a k e),fu f h⟩,⟨da g (jh g i) zo (λk _ e=>a k e),jh g i⟩,c.tabs,by simp[el.empty],(d.alloc d.size _).trans (c.ch.below (B:=w0.heap.size) (λk a=>by have:=d.size;omega) (by have:=d.size;simp;omega)),d.size⟩
end
def JC(w:Qm)(σ:el)(e:Qq)(w':Qm):Prop:= ∃s tv sv lv ps,e= .returned (.tuple #[.pointer (some ⟨s,0,none⟩),.int .i64 0])/\Qs (kW w w' s σ tv sv lv ps)
def Ko(B:Nat)(n:ByteArray)(l:List ah):br kM:= .rel (λv w=> ∃a,v= .agg #[n,a]/\aH w a l/\iX B a) (λ_ _ _ c d=>by obtain⟨t,e,f,g⟩:=c;exact⟨t,e,f.below d,g⟩)
def FC(B:Nat)(l:List Int):br kM:= .rel (λv w=>aE w v l/\iX B v) (λ_ _ _ a c=>⟨a.1.below c,a.2⟩)
def ka{w:Qm}{v:Qn}{P:PV}(a5:fx w v P)(F:cD P.name P.l=true)(a6:P.src.length=P.l.length)(bound done:Int)(j0:0<=bound)(j1:0<=done)(j2:done<P.steps):
 Qo zP 133 #[v,bound,done] w (JC w (el.empty P bound done)):=by
 have V:=zh a5;obtain⟨j3,sv,rfl,a7,a8⟩:=a5;have c5:=zh a7;have a9:=zh a8;obtain⟨j4,j5,rfl,-⟩:=id a7;obtain⟨j6,j7,rfl,f7,-⟩:=id a8;obtain⟨f8,f9,g0,g1,g2⟩:=info_parts uj;have g3:=zh F;have c6:=(aN F).1;have c7:=zh (cE F);have g4:=P.fills_bd (cE F);rw[a6] at a9 V;obtain⟨L,I⟩:=zx P.l.length;have c8:=zh I;have g5:=zh (show P.src.length=L by rw[a6,I]);rw[a6,<-I];rw[<-I] at c5 a9 c6 V;obtain⟨b0,b1⟩:=zx P.steps;have g6:3<=b0:=by rw[b1];unfold PV.steps;omega
 have j8:=zi (bound<0);have j9:=zi (done<0);have k0:=zi (b0<=done);have k1:(b0==0)=false:=by rw[Od];omega
 have c9:=zh b1;clear a7 a8 f7 a6 I F g4 j1 j2 j0 b1 g6;go_enter func133,ntmps133;go_wp2_with fail;refine zb (jj (V.below ze) c7) λd0 g7=>?_
 rw[<-c9];obtain⟨W,d1⟩:=bl g7;have g8:=zh W;have d2:=zh d1;obtain⟨c0,J,K⟩:=aW W;have g9:=aa W;clear W d1;go_wp2_with fail;refine zb (jj (V.below d2) c7) λM b2=>?_
 rw[<-c9];have X:=zh (ab g8 b2);have B2:=ai d2 b2;clear c0 J K g9;obtain⟨c0,J,K⟩:=aW X;have k2:=aa X;go_wp2_with fail;refine zJ M 7 (zL [?_,?_]++(Ko M.heap.size P.name P.l)::zL [?_,?_]++(FC M.heap.size P.src)::zL [?_]) zq ?_;rotate_right
 iterate 2
  refine zV ?_
 refine aT zk rfl rfl ?_ λh0=>?_
 ·intro d0 h N Y r;have h1:=h.2;go_simp;refine(jO _ P.name P.l _ ⟨_,rfl,c5.below (ai B2 h.1)⟩ (by rw[<-c8];omega)).mono ?_;rintro e h2 ⟨u,rfl,⟨H,rfl,b3,b4⟩,b5⟩;exact r.out _ _ _ zg ⟨H,rfl,b3,b4.mono h.1.size⟩ b5
 simp only[zS]
 iterate 2
  refine zV ?_
 refine aT zk rfl rfl ?_ λd3=>?_
 ·intro d0 h N Y r;have h1:=h.2;go_simp;refine(lu _ P.src _ (a9.below (ai B2 h.1)) (by rw[g5];omega)).mono ?_;rintro e h2 ⟨u,rfl,b3,b4,b5⟩;exact r.out _ _ _ zg ⟨b3,b4.mono h.1.size⟩ b5
 simp only[zS];refine zV ?_;refine nD zk rfl rfl rfl (λn h N _=>?_);obtain⟨H,h3,b6,d4⟩: ∃H,h0= .agg #[P.name,H]/\aH n H P.l/\iX M.heap.size H:=N.out 2;subst h3;obtain⟨b7,d5⟩:aE n d3 P.src/\iX M.heap.size d3:=N.out 5;obtain⟨A,C,rfl,-⟩:=id b6;obtain⟨D,E,rfl,-⟩:=id b7;have d6:=zh b6;have d7:=zh d4;have d8:=zh b7;have d9:=zh d5;have e0:=ai B2 h.1;have O:=zh (ab X h.1);have k3:=h.1.size;clear N h b6 d4 b7 d5 c0 J K;obtain⟨c0,J,K⟩:=aW O;have h4:=ad (o:=0) O;have h5:=ad (o:=1) O;have h6:=ad (o:=2) O;have k4:=aa O;go_wp2_with fail;obtain⟨m,Q⟩:=zx (((n.setCell ⟨w.heap.size,0,none⟩ (.string P.name)).setCell ⟨w.heap.size,1,none⟩ (.slice A P.l.length C)).setCell ⟨w.heap.size,2,none⟩ (.slice D P.src.length E));have b8:m.heap.size=n.heap.size:=by rw[Q];simp
 have k5:=aa X;have b9: ∀k,k≠w.heap.size->m.heap[k]?=n.heap[k]?:=λk e1=>by rw[Q];exact aR _ _ _ e1
 have e2:aH m (.slice A P.l.length C) P.l:=co d6 (fu d6 d7) zo λk h7 h8=>b9 k zo
 have e3:aE m (.slice D P.src.length E) P.src:=da d8 (jh d8 d9) zo λk h7 h8=>b9 k zo
 have e4:Qr w.heap.size w m:=by rw[Q];exact ao (ao (ao e0 zl) zl) zl
 have e5:=zh e2;have h9:=zh e3;have i0:=zh e4;have i1:=zh (show nF (m.alloc (.cells #[P.name,.slice A P.l.length C,.slice D P.src.length E,bound,done,z0] 95)) (m.alloc (.cells #[P.name,.slice A P.l.length C,.slice D P.src.length E,bound,done,z0] 95)) n.heap.size 5 #[P.name,.slice A P.l.length C,.slice D P.src.length E,bound,done,z0] 95 (.slice none 0 0) [] [] [] from nF.start (j:=5) (ag b8) zu rfl);have e6:=zh b8;have k6:P.l.length<=5:=by rw[<-c8];exact c6
 have k7:w.heap.size<=n.heap.size:=e0.size;rw[<-Q];clear Q b9 e2 e3 e4 b8 c0 J K h4 h5 h6;go_loopw [45] (λi wr=> ∃(k:Nat) (c1:List bF) (v':Qn),k<=P.l.length/\i= .int .i64 k/\Qs (nF (m.alloc (.cells #[P.name,.slice A P.l.length C,.slice D P.src.length E,bound,done,z0] 95)) wr n.heap.size 5 #[P.name,.slice A P.l.length C,.slice D P.src.length E,bound,done,z0] 95 v' ((P.l.map (·.every)).take k) (List.replicate k none) c1)) (λi _=>P.l.length-(intOf i).toNat)
 case atStart=>exact⟨0,[],_,Nx _,rfl,i1⟩
 case round=>
  obtain⟨k,c1,v',e1,rfl,g⟩:=hrel;have i2:=zh (show Qr m.heap.size m wr from ze.trans (g.ch.below (B:=m.heap.size) (by intro j k8;have:=e6.out;omega) zm));have i3:=e5.below i2;by_cases R:k<P.l.length
  ·obtain⟨k9,l0,rfl,b2,⟨e7,e8,e9,f0⟩,c2,-⟩:=bS i3 R
   obtain⟨T,Z⟩:=zx (P.l.getD k ah.zero);rw[<-Z] at e7 e8 e9 f0 c2;have l1:1<=T.every:=by rw[Z];exact(aN g3).2.2 k R
   have i4:=zh (show(P.l.map (·.every)).getD k 0=T.every by rw[Z];simp[R]);have i5:=zh c2.2.1;have i6:max T.every 1=T.every:=zo;obtain⟨a0,U⟩:=zx (wr.alloc (.cells #[T.name,(T.every:Int),(T.keep:Int),(T.shards:Int)] 116));have l2:wr.heap.size<a0.heap.size:=by rw[U];simp
   have l3:=g.size;have c3:=zh (show nF _ a0 _ _ _ _ _ _ _ _ by rw[U];exact g.below ze);obtain⟨a1,-⟩:=c3.cell;have f1:a0.heap[wr.heap.size]?=some (.cells #[T.name,(T.every:Int),(T.keep:Int),(T.shards:Int)] 116):=by rw[U];exact ag rfl
   have a2:a0.cell? ⟨wr.heap.size,1,none⟩=some (.int .i64 T.every):=by rw[NA _ _ _ _ _ _ f1];rfl
   have a3:v'.ownBlock≠some wr.heap.size:=λe=>by have:=(ar g.tabs.own e).2.1;omega
   clear f1 c2 Z;go_wp2_with fail;rw[<-U];clear U e7 e8 e9 f0 g;have g:=c3;clear c3;refine aC (S:=(λw'=>w'.cell? ⟨n.heap.size,5,none⟩=some v'/\w'.cell? ⟨wr.heap.size,1,none⟩=some (.int .i64 T.every))) 12 zk ?_ (λf=>?_)
   ·(first|exact⟨a1,a2⟩|exact⟨ae f.1 s,ae f.2 s⟩|exact⟨ae f.1 ze,ae f.2 ze⟩|exact⟨t _ _ f.1 g.own,t _ _ f.2 a3⟩)
   refine zU 0 ?_;refine zU 1 ?_;refine zU 2 ?_;refine zU 3 ?_;refine zU 4 ?_;refine zU 5 ?_;refine zU 6 ?_;refine zO 7 λY r=>?_
   go_simp;refine(qw T.every _ i5).mono ?_;rintro e l4 ⟨q,d,rfl,hq,i7,i8,s⟩;rw[i6] at hq;have a4:=ec s;refine zE r (by first|exact⟨a1,a2⟩|exact⟨ae f.1 s,ae f.2 s⟩|exact⟨ae f.1 ze,ae f.2 ze⟩|exact⟨t _ _ f.1 g.own,t _ _ f.2 a3⟩) λf=>?_
   refine zO 8 λY r=>?_
   go_simp
   skip
   refine zE r (by first|exact⟨a1,a2⟩|exact⟨ae f.1 s,ae f.2 s⟩|exact⟨ae f.1 ze,ae f.2 ze⟩|exact⟨t _ _ f.1 g.own,t _ _ f.2 a3⟩) λf=>?_
   refine zO 9 λY r=>?_
   rw[NH (by simp[Region.wanted])];refine cY (enc:=jA) _ _ 47 rfl (n.heap.size+1) 118 f8 _ 8 underlying47 f9 g0 g1 g2 rfl zd _ _ _ _ [(q,d)] rfl (aS (aS g.tabs.own a4) ze) rfl (bC 1 (c:=1) (l:= [(q,d)]) (ag rfl) rfl ⟨Nt 1,zd⟩) (λ_=>rfl) (by intro x y f2;simp only[jA,NL,NJ,Ou] at f2;subst f2;rfl) (show(c1.length+1)*8<140737488355328 by have:=g.tabs.len;simp at this;omega) zd (by have:=a4.size;have:=g.lt;have:=g.size;simp;omega) (λl5 w7 f3 c4=>?_);have t:=λ(p:Addr) (x:Qn) (f4:World.cell? _ p=some x) (F:v'.ownBlock≠some p.block)=>(World.cell?_of_block (a:=p) (c4.block p.block (Nv _ _ f4) (λe=>F e.symm))).trans f4
   refine zE r (by first|exact⟨a1,a2⟩|exact⟨ae f.1 s,ae f.2 s⟩|exact⟨ae f.1 ze,ae f.2 ze⟩|exact⟨t _ _ f.1 g.own,t _ _ f.2 a3⟩) λf=>?_
   refine zU 10 ?_;refine zU 11 ?_;refine zF ?_;obtain⟨f5,l6,l7,l8,l9,rfl⟩:=g.push (o:=none) a4 hq (λ_ a5=>nomatch a5) i7 i8 c4 f3;have i9:=zh f5;clear f5 f f3 c4 a4 t;go_wp2;go_roundw
   case rel=>exact⟨k+1,_,_,R,by go_num,by rw[ji (d:=0) (show k<(P.l.map (·.every)).length by simpa using R),List.replicate_succ',i4];exact i9⟩
   case measure=>simp[intOf];omega
  ·obtain rfl:k=P.l.length:=zo
   go_wp2;go_ret2;have f6:=g.out;rw[NC zm] at f6;exact⟨_,_,_,_,_,rfl,f6.shadow (w0:=w) e6 e5 (d7.mono zo) h9 (d9.mono zo) i0⟩
section
variable{w w' w0 w2:Qm}{B E s g n c i q d:Nat}{σ:el}{tv sv lv v:Qn}{ps:List bF}{es:List Int}{tabs:List (Option ay)}{o:Option ay}
def CE{l:List Nat}{i d:Nat}(e:l.Nodup)(f: ∀x∈l,x≠d):(l.set i d).Nodup:=by
 induction l generalizing i with
 |nil=>simp
 |cons a l g=>
  rw[PX] at e;cases i with
  |zero=>rw[Om,PX];exact⟨λc=>f d (Oj _ c) rfl,e.2⟩
  |succ i=>
   rw[Oe,PX];refine⟨λc=>?_,g e.2 λx h=>f x (Oj _ h)⟩;rcases Pf c with c|c
   ·exact e.1 c
   ·exact f a OR c
def mz: ∀{ps:List bF} {i:Nat} {p:bF},(ps.set i p).flatMap jA=(ps.flatMap jA).set i (.pointer (some ⟨p.1,0,none⟩))
 | [],i,p=>zm
 |a::ps,0,p=>by simp[jA]
 |a::ps,i+1,p=>by
  rw[Oe,NZ,NZ,mz];rfl
def uo(ps:List bF):(ps.flatMap jA).length=ps.length:=by rw[fn (k:=1) (λ_=>rfl)];omega
def ew.swap(f:ew w B (.slice (some ⟨g,0,none⟩) n c) es tabs ps)(v:i<ps.length)(K:bN w q (es.getD i 0) d (fH o))(L:rS o)(hq:B<=q/\B<=d)(M: ∀p∈ps,p.2≠d):
 ew (w.setCell ⟨g,i,none⟩ (.pointer (some ⟨q,0,none⟩))) B (.slice (some ⟨g,0,none⟩) n c) es (tabs.set i o) (ps.set i (q,d)):=by
 obtain⟨-,-,s,C⟩:=ar f.own (g:=g) rfl
 have D:n=ps.length:=by
  rcases f.own.2 with⟨r,_⟩|⟨_,_,_,r,_⟩
  ·cases r
  ·injection r
 have t: ∀k o,w.heap[k]?=some o->(∀s,o≠Obj.cells s 118 (0,0))->(w.setCell ⟨g,i,none⟩ (.pointer (some ⟨q,0,none⟩))).heap[k]?=w.heap[k]?:=λk o u E=>af _ λe=>by
  have e:k=g:=e;rw[e,C] at u;injection u with u
  exact E _ u.symm
 have A: ∀{p b:Nat} {e:Int} {l:List ((ByteArray×Int)×aF)},bN w p e b l->bN (w.setCell ⟨g,i,none⟩ (.pointer (some ⟨q,0,none⟩))) p e b l:=λy=>by
  obtain⟨m,N,F,_⟩:=y.map;exact y.step (t _ _ y.blk λs e=>by injection e with O H;exact absurd H zd) (t _ _ F λs e=>by cases e)
 refine⟨?_,by simpa using f.len,λj p a=>?_,λj p a=>?_,?_,λI r=>(Pf r).elim (f.ok I) (λe=>e▸L)⟩
 ·rw[List.length_set,mz]
  subst D;exact AJ f.own (by rw[uo];exact v)
 ·rw[vQ (by rw[<-f.len.1];exact v)]
  rw[Pq] at a;by_cases h:i=j
  ·subst h
   rw[NH rfl,NH v] at a;injection a with a;subst a
   rw[NH rfl];exact A K
  ·rw[NB h] at a
   rw[NB (Ne.symm h)];exact A (f.tab j p a)
 ·rw[Pq] at a
  by_cases h:i=j
  ·subst h
   rw[NH rfl,NH v] at a;injection a with a;subst a
   exact hq
  ·rw[NB h] at a
   exact f.ge j p a
 ·rw[Qk]
  exact CE f.nodup λx t=>by
   obtain⟨p,J,rfl⟩:=OI.1 t;exact M p J
def kW.base{d:Qm}(a:kW d w s σ tv sv lv ps)(c:Qr w0.heap.size w0 d):kW w0 w s σ tv sv lv ps:=
 ⟨a.blk,⟨a.tiers.1,a.tiers.2.mono c.size zl⟩,⟨a.src.1,a.src.2.mono c.size zl⟩,a.tabs,a.len,c.trans (a.bel.mono c.size),Nq c.size a.ge⟩
def CF(i:Qm)(σ:el):br kM:= .rel (λv w=> ∃s tv sv lv ps,v= .tuple #[.pointer (some ⟨s,0,none⟩),.int .i64 0]/\kW i w s σ tv sv lv ps) (λ_ _ _ e f=>by obtain⟨s,a,b,c,d,g,h⟩:=e;exact⟨s,a,b,c,d,g,h.below f⟩)
def vY(i:Qm)(σ:el):br kM:= .rel (λv w=> ∃s tv sv lv ps,v= .pointer (some ⟨s,0,none⟩)/\kW i w s σ tv sv lv ps) (λ_ _ _ e f=>by obtain⟨s,a,b,c,d,g,h⟩:=e;exact⟨s,a,b,c,d,g,h.below f⟩)
def kW.setDone(a:kW w0 w s σ tv sv lv ps)(n:Int):kW w0 (w.setCell ⟨s,4,none⟩ (.int .i64 n)) s {σ with done:=n} tv sv lv ps:=by
 have c: ∀k,k≠s->(w.setCell ⟨s,4,none⟩ (.int .i64 n)).heap[k]?=w.heap[k]?:=λk c=>af _ c
 exact⟨by rw[al a.blk];rfl,⟨co a.tiers.1 a.tiers.2 zm λk _ d=>c k zo,a.tiers.2⟩,⟨da a.src.1 a.src.2 zm λk _ d=>c k zo,a.src.2⟩,a.tabs.set zo,a.len,ao a.bel a.ge,a.ge⟩
def kW.swap(a:kW w0 w s σ tv sv (.slice (some ⟨g,0,none⟩) n c) ps)(h:i<ps.length)(j:bN w q (σ.es.getD i 0) d (fH o))(l:rS o)(hq:s+1<=q/\s+1<=d)(m: ∀p∈ps,p.2≠d):
 kW w0 (w.setCell ⟨g,i,none⟩ (.pointer (some ⟨q,0,none⟩))) s {σ with tabs:=σ.tabs.set i o} tv sv (.slice (some ⟨g,0,none⟩) n c) (ps.set i (q,d)):=by
 have r:=(ar a.tabs.own (g:=g) rfl).1;have t:=a.ge;have e: ∀k,k≠g->(w.setCell ⟨g,i,none⟩ (.pointer (some ⟨q,0,none⟩))).heap[k]?=w.heap[k]?:=λk e=>af _ e
 exact⟨(e s zo).trans a.blk,⟨co a.tiers.1 a.tiers.2 zm λk _ f=>e k zo,a.tiers.2⟩,⟨da a.src.1 a.src.2 zm λk _ f=>e k zo,a.src.2⟩,a.tabs.swap h j l hq m,by simpa using a.len,ao a.bel (by show w0.heap.size<=g;omega),a.ge⟩
def FD(w:Qm)(σ:el)(e:Qq)(w':Qm):Prop:= ∃s,e= .returned (.pointer (some ⟨s,0,none⟩))/\Qs (nH w' w.heap.size w'.heap.size s σ)/\Qs (Qr w.heap.size w w')
def qP(l:List (Option ay)):cm (λi=>l.getD i none) l.length l.length=l:=by
 refine Pa (by simp[cm]) λi c a=>?_
 simp[cm,a]
structure el.ok(σ:el):Prop where
 pol:cD σ.P.name σ.P.l=true
 src:σ.P.src.length=σ.P.l.length
 bound:0<=σ.bound/\σ.bound<=1000000
 done:0<=σ.done/\σ.done<σ.P.steps
def sR(H:Qs (mS w B E s σ tv sv lv ps))(x:Qs σ.ok):Qo zP 75 #[.pointer (some ⟨s,0,none⟩)] w (FD w σ):=by
 have b8:=(aN x.pol).1;have b9:=(aN x.pol).2.1;have c1:=PV.fills_bd (cE x.pol);have c2:0<σ.P.steps:=by unfold PV.steps;omega
 obtain⟨c0,y,A,C,D,t⟩:=di H.blk;have d8:=aa H.blk;have d9:σ.tabs.length<=5:=by rw[H.len];exact b8
 have e0:0<σ.tabs.length:=by rw[H.len];exact b9
 obtain⟨e1,e2,e,-⟩:=id H.tabs.row;subst e;rw[H.tabs.len.1] at t H;clear c1;go_enter func75,ntmps75;go_wp2_with fail;refine zJ w 14 (zL [?_,?_,?_,?_,?_,?_,?_,?_]++(CF w (el.empty σ.P σ.bound 0))::(CF w (el.empty σ.P σ.bound 0))::(vY w (el.empty σ.P σ.bound 0))::zL [?_]++(vY w (el.empty σ.P σ.bound 0))::zL [?_]) zq ?_;rotate_right
 iterate 8
  refine zV ?_
 refine aT zk rfl rfl ?_ λe3=>?_
 ·intro n a c F g;have I:=a.2;go_simp;refine(ka (H.plan.below a.1) x.pol x.src σ.bound 0 x.bound.1 (Ov _) c2).mono ?_;rintro e w2 ⟨l,M,N,O,P,rfl,f⟩;exact g.out _ _ _ zg ⟨l,M,N,O,P,rfl,f.base a.1⟩ f.bel
 simp only[zS];refine aT zk rfl rfl ?_ λa0=>?_
 ·intro n a c F g;have I:=a.2;go_simp;exact g.out _ _ _ zg (c.out 8 zk) zr
 simp only[zS];refine aT zk rfl rfl ?_ λe4=>?_
 ·intro n a c F g;have I:=a.2;go_simp;obtain⟨l,M,N,O,P,rfl,f⟩: ∃s tv sv lv ps,a0= .tuple #[.pointer (some ⟨s,0,none⟩),.int .i64 0]/\kW w n s (el.empty σ.P σ.bound 0) tv sv lv ps:=c.out 9 zk;go_simp;exact g.out _ _ _ zg ⟨l,M,N,O,P,rfl,f⟩ zr
 simp only[zS];refine aw zk rfl rfl ?_ ?_
 ·intro n a c F g;have I:=a.2;go_simp;obtain⟨l,M,N,O,P,rfl,f⟩: ∃s tv sv lv ps,a0= .tuple #[.pointer (some ⟨s,0,none⟩),.int .i64 0]/\kW w n s (el.empty σ.P σ.bound 0) tv sv lv ps:=c.out 9 zk;go_simp;exact g.out _ _ zz zr
 refine aT zk rfl rfl ?_ λc3=>?_
 ·intro n a c F g;have I:=a.2;go_simp;exact g.out _ _ _ zg (c.out 10 zk) zr
 simp only[zS];refine zV ?_;refine zD λa1 a c=>?_
 obtain⟨l,a2,a3,c4,a4,U,f⟩: ∃s tv sv lv ps,c3= .pointer (some ⟨s,0,none⟩)/\kW w a1 s (el.empty σ.P σ.bound 0) tv sv lv ps:=c.out 12;subst U;have J:=zh f;have c5:=ad (o:=4) f.blk;obtain⟨V,h,K,L,W,Q⟩:=di f.blk;have a5:=H.below f.bel;have e5:=f.ge;have e6:=aa f.blk;have e7:=H.iv;clear c a f c0 y A C D t;obtain⟨c0,y,A,C,D,t⟩:=di a5.blk;have e8:=aa a5.blk;obtain⟨c6,X⟩:=zx (a1.setCell ⟨l,4,none⟩ (.int .i64 σ.done));have a6:=zh (show kW w c6 l ⟨σ.P,σ.bound,σ.done,cm (λi=>σ.tabs.getD i none) σ.tabs.length 0⟩ a2 a3 c4 a4 by rw[X,lD,H.len];exact J.setDone _);obtain⟨c7,c8,e,-,e9,-,-,-,-⟩:=dr J.tabs.own (by rw[J.tabs.len.1];show(List.replicate σ.P.l.length none).length≠0;rw[Pg];omega);subst e;have c9:a4.length=σ.tabs.length:=by rw[J.tabs.len.1];simp[el.empty,H.len]
 rw[c9] at Q a6;go_wp2_with fail;rw[<-X];clear X c5 V h K L W Q c0 y A C D t J;go_loopw [33] (λi wr=> ∃(k:Nat) (r:List bF),k<=σ.tabs.length/\i= .int .i64 k/\Qs (kW w wr l ⟨σ.P,σ.bound,σ.done,cm (λi=>σ.tabs.getD i none) σ.tabs.length k⟩ a2 a3 (.slice (some ⟨c7,0,none⟩) σ.tabs.length c8) r)) (λi _=>σ.tabs.length-(intOf i).toNat)
 case atStart=>exact⟨0,_,Nx _,rfl,a6⟩
 case round=>
  obtain⟨k,r,f0,rfl,m⟩:=hrel;have R:=H.below m.bel;have S:=zh (show r.length=σ.tabs.length by rw[m.tabs.len.1];exact gQ _ _ _);by_cases v:k<σ.tabs.length
  ·obtain⟨_,f1,o',c',p,e,-,a7,Y,f2,a8⟩:=R.tabs.elem v
   injection e with h K L;subst h L
   clear K;have a9:=zh a8;have Z:=R.tabs.okD k;obtain⟨b0,b1⟩:=zy (σ.tabs.getD k none);rw[<-b1] at Z a9;have d0:=zh Z;obtain⟨c0,y,A,C,D,t⟩:=di R.blk;obtain⟨V,h,K,L,W,Q⟩:=di m.blk;have f3:=aa m.blk;have f4:=aa R.blk;clear a8 Y Z;go_wp2_with fail;refine zJ wr 8 (zL [?_,?_,?_,?_,?_,?_]++(Iu wr.heap.size (σ.es.getD k 0) b0)::zL [?_]) zq ?_;rotate_right
   iterate 6
    refine zV ?_
   refine aT zk rfl rfl ?_ λd1=>?_
   ·intro n a c F g;have I:=a.2;go_simp;refine(nE (a9.below a.1)).mono ?_;rintro e w2 ⟨p,b,rfl,d2,T,d3,a7⟩;exact g.out _ _ _ zg ⟨p,b,rfl,Nq a.1.size T,Nq a.1.size d3,d2⟩ a7
   simp only[zS];refine zV ?_;refine zA λd4 a c=>?_
   obtain⟨q,d,U,f5,f6,b2⟩: ∃p b,d1= .pointer (some ⟨p,0,none⟩)/\wr.heap.size<=p/\wr.heap.size<=b/\bN d4 p (σ.es.getD k 0) b (fH b0):=c.out 6;subst U;have b3:=m.below a.1;have d5:=zh b2;obtain⟨f7,f8,e,-,f9,-,-,b4,b5⟩:=dr b3.tabs.own (by rw[S];omega);injection e with h _ _;injection h with h;injection h with h;subst h
   have g0:=b4 k;have b6:r[k]?=some (r[k]'(by rw[S];exact v)):=Np _;have g1:=b5 k (.pointer (some ⟨(r[k]'(by rw[S];exact v)).1,0,none⟩)) (by have:=jR (enc:=jA) (k:=1) (λ_=>rfl) b6 (i:=0) (u:=_) rfl;simpa using this)
   have b7: ∀p∈r,p.2≠d:=λp Y e=>by
    obtain⟨j,d6,rfl⟩:=PE.1 Y;have:=(m.tabs.tab j _ (Np d6)).map.lt;omega
   have d7:=zh (b3.swap (i:=k) (by rw[S];exact v) d5 d0 zo b7);clear b4 b5 b7 b6;clear c a b2 c0 y A C D t V h K L W Q;go_wp2;go_roundw
   case rel=>exact⟨k+1,_,v,by go_num,by rw[lE _ v,<-b1];exact d7⟩
   case measure=>simp[intOf];omega
  ·obtain rfl:k=σ.tabs.length:=zo
   go_wp2;go_ret;have T:=m.at;rw[qP] at T;exact⟨_,rfl,⟨_,_,_,_,T⟩,m.bel⟩
end
def qQ(w:Qm):Qo zP 85 #[.pointer none] w (aK w (.int .i64 0)):=by
 go_enter func85,ntmps85;go_wp2;go_ret;exact⟨rfl,ND _ _⟩
def CG(v u:Qn)(w:Qm):Qo zP 209 #[.pointer none,v,u] w (aK w (.tuple #[])):=by
 go_enter func209,ntmps209;go_wp2
 go_end0
 exact⟨rfl,ND _ _⟩
def CH(v:Qn)(w:Qm):Qo zP 67 #[.pointer none,v] w (aK w (.int .i64 0)):=by
 go_enter func67,ntmps67;go_wp2;go_ret;exact⟨rfl,ND _ _⟩
def nI(w:Qm):Qo zP 75 #[.pointer none] w (aK w (.pointer none)):=by
 go_enter func75,ntmps75;go_wp2;go_ret;exact⟨rfl,ND _ _⟩
section
variable{w w' w0 w2:Qm}{B E s t B2 E2:Nat}{σ:el}{τ:dJ}{tv sv lv fv tv2 lv2:Qn}{ps ps2:List bF}{o:Option ay}
def lF(a:mS w B E s σ tv sv lv ps):Qo zP 85 #[s] w (aK w (.int .i64 σ.bound)):=by
 obtain⟨c0,c,d,e,f,g⟩:=di a.blk;clear a;go_enter func85,ntmps85;go_wp2;go_ret;exact⟨rfl,ND _ _⟩
def CI(a:mS w B E s σ tv sv lv ps):Qo zP 361 #[s] w (aK w (.int .i64 σ.done)):=by
 obtain⟨c0,c,d,e,f,g⟩:=di a.blk;clear a;go_enter func361,ntmps361;go_wp2;go_ret;exact⟨rfl,ND _ _⟩
def Iz(a:mS w B E s σ tv sv lv ps)(k:Nat)(d:k<σ.tabs.length)(j:σ.tabs.length<=100):Qo zP 392 #[s,(k:Int)] w (aK w (.bool true)):=by
 obtain⟨_,b,o,c,p,rfl,-,-,-,-,-⟩:=a.tabs.elem d;obtain⟨c0,e,f,g,h,i⟩:=di a.blk;clear a;go_enter func392,ntmps392;go_wp2;go_ret;exact⟨bu (by first|rfl|simp<;>omega),ND _ _⟩
def up(H:Qs (mS w B E s σ tv sv lv ps))(k:Nat)(g:k<σ.tabs.length)(l:σ.tabs.length<=100):Qo zP 333 #[s,(k:Int)] w (AQ w (σ.tabs.getD k none).toList):=by
 go_enter func333,ntmps333;go_wp2_with fail;refine zb (Iz H k g l) λm a=>?_
 have d:=H.below a;obtain⟨_,b,o,c,p,rfl,-,n,q,r,f⟩:=d.tabs.elem g;obtain⟨c0,t,u,x,y,A⟩:=di d.blk;have h:=zh f;clear f;go_wp2_with fail;refine(ft h).mono ?_;rintro e w2 ⟨v,rfl,i,j⟩;go_wp2;go_ret;exact⟨v,rfl,cj i a.size,ai a j⟩
def nJ(H:Qs (mS w B E s σ tv sv lv ps))(r:Qs σ.ok):Qo zP 200 #[s] w (aK w (.tuple #[(σ.P.at σ.done).val,true])):=by
 obtain⟨c0,e,f,g,h,i⟩:=di H.blk;have K:=aa H.blk;go_enter func200,ntmps200;go_wp2_with fail;obtain⟨j,d⟩:=zx (w.alloc (.cells #[(),(),()] 97));have t:=zh (show Qr w.heap.size w j by rw[d];exact ak _ _);have x:=zh (show j.heap[w.heap.size]?=some (.cells #[(),(),()] 97) by rw[d];exact ag rfl);have k:=H.below t;rw[<-d];clear d c0 e f g h i;obtain⟨c0,e,f,g,h,i⟩:=di k.blk;have L:=aa k.blk;have M:=aa x;obtain⟨A,l⟩:=zy (σ.P.at σ.done);rw[<-l];obtain⟨m,n,q⟩:=A;refine zJ j 11 (zL [?_,?_,?_,?_,?_,?_,?_,?_,?_,?_,?_]) zq ?_;rotate_right
 iterate 8
  refine zV ?_
 refine aw zk rfl rfl ?_ ?_
 ·intro N a y O C;have P:=a.2;go_simp;refine zb (Ix (k.plan.below a.1) (cE r.pol) σ.done r.done.1 r.done.2) λw2 D=>?_;rw[<-l];simp only[CD.val];exact C.out _ _ zz D
 iterate 2
  refine zV ?_
 refine kn zk rfl rfl (λQ a y _=>?_);have c:=zh (ab x a.1);have F:=ai t a.1;have R:=ad (o:=0) c;have S:=ad (o:=1) c;have T:=ad (o:=2) c;obtain⟨U,V,W⟩:=aW c;have I:=zh (bW (.int .i64 m) (.int .i64 n) (.int .i64 q) c);have J:=ao (ao (ao (p:=⟨w.heap.size,0,none⟩) (u:= .int .i64 m) F zl) (p:=⟨w.heap.size,1,none⟩) (u:= .int .i64 n) zl) (p:=⟨w.heap.size,2,none⟩) (u:= .int .i64 q) zl;clear a y c0 e f g h i;go_wp2;exact NG (v:= .tuple #[.agg #[(m:Int),(n:Int),(q:Int)],true]) (aJ results200 _ _ _ _ _ _ _ _ rfl rfl I underlying97 rfl zk) rfl ⟨by rw[<-l];rfl,J⟩
def CJ{w:Qm}{r:ay}{k:Int}{a:Nat}(d:w.cell? ⟨a,0,none⟩=some (.int .i64 k)):
 Qo zP 347 (#[r.val]++#[.pointer (some ⟨a,0,none⟩)]) w (aK w (.bool (decide (r.start<k)))):=by
 have c:=Nv w _ d;dsimp only at c;show Qo zP 347 #[r.val,.pointer (some ⟨a,0,none⟩)] w _;unfold ay.val;go_enter func347,ntmps347;go_wp2;go_ret;exact⟨rfl,ak _ _⟩
def CK(H:Qs (mS w B E s σ tv sv lv ps))(k:Nat)(K:k<σ.tabs.length)(U:σ.tabs.length<=100)(f:Int)(l:Qs (∀r∈σ.tabs.getD k none,f<=r.start)):Qo zP 279 #[s,.int .i64 k,.int .i64 f] w (It w w.heap.size (σ.tabs.getD k none).toList):=by
 obtain⟨_,b,o,c,p,rfl,-,L,M,N,a⟩:=H.tabs.elem K;obtain⟨c0,O,P,Q,R,S⟩:=di H.blk;have T:=aa H.blk;have d:=zh a;obtain⟨m,e⟩:=zx (σ.tabs.getD k none);rw[<-e] at d l⊢;clear a e;go_enter func279,ntmps279;go_wp2_with fail;refine(ft (d.below ze)).mono ?_;rintro x n ⟨v,rfl,q,t⟩;obtain⟨g,h⟩:=bl t;have y:=zh (cj q (zm:w.heap.size<=_));have i:=zh h;have A:=zh g;clear g h;go_wp2_with fail
 have j:Ft 347 #[w.heap.size] n m false:=⟨hE func347 zk zk,λr C w' D=>by
  have:=CJ (r:=r) (k:=f) (ae (by rw[NA _ _ _ _ _ _ A];rfl) D)
  rwa [NQ (by have:=l r C;omega)] at this⟩
 refine(uh y i.size j).mono ?_;rintro x w2 ⟨u,rfl,F,I,J⟩;have B2:=i.trans J;clear j;go_wp2;go_ret;exact⟨u,rfl,F,I,B2⟩
def AW{v u:Qn}(t:aB 7 ay.cells w v o.toList)(x:aB 7 ay.cells w u o.toList):Qo zP 257 #[v,u] w (aK w (.bool true)):=by
 have y:=zh t;have A:=zh x;obtain⟨va,vc,rfl,-,-⟩:=t;obtain⟨D,E,rfl,-,-⟩:=x;cases o with
 |none=>
  go_enter func257,ntmps257;go_wp2_with fail;refine NM 1 ?_;rw[NF];go_wp2;go_ret;exact⟨rfl,ND _ _⟩
 |some r=>
  obtain⟨F,H,rfl,I,a,c,d,e,f,g,h⟩:=ds (j:=0) y rfl;obtain⟨J,K,rfl,L,i,k,l,m,n,p,q⟩:=ds (j:=0) A rfl;simp only[Ox,NR] at a c d e f g h i k l m n p q;go_enter func257,ntmps257;go_wp2_with fail;refine NM 2 ?_;rw[NF];go_wp2_with fail;refine zJ w 9 (zL [?_,?_,?_,?_,?_,?_,?_,?_,?_]) zq ?_;rotate_right
  iterate 9
   refine zV ?_
  refine zD λM s B=>?_
  have C:=zh s.1;clear s B a c d e f g h i k l m n p q;go_wp2_with fail;rw[NF];go_wp2;go_ret;exact⟨rfl,C⟩
def vZ(H:Qs (mS w B E s σ tv sv lv ps))(U:Qs (hY w B2 E2 t τ tv2 fv lv2 ps2))(V:Qs (aQ τ.r.now))(n:Qs (σ.tabs=τ.tabs))(x:σ.tabs.length<=100)(W:Qs (∀k,k<σ.tabs.length-> ∀r∈σ.tabs.getD k none,τ.r.from k<=r.start)):
 Qo zP 204 #[s,t] w (aK w (.bool true)):=by
 obtain⟨X,Y,e,-⟩:=id H.tabs.row;subst e;rw[H.tabs.len.1] at H;obtain⟨c0,d,f,g,h,y⟩:=di H.blk;go_enter func204,ntmps204;go_wp2_with fail;go_loopw [11] (λi wr=> ∃k:Nat,k<=σ.tabs.length/\i= .int .i64 k/\Qs (Qr w.heap.size w wr)) (λi _=>σ.tabs.length-(intOf i).toNat)
 case atStart=>exact⟨0,Nx _,rfl,zh zr⟩
 case round=>
  obtain⟨k,Z,rfl,a⟩:=hrel;by_cases c:k<σ.tabs.length
  ·have A:=H.below a
   have j:=U.below a;clear c0 d f g h y;obtain⟨c0,d,f,g,h⟩:=eB j.blk;have C:aQ (k:Int):=by unfold aQ;omega
   obtain⟨F,l⟩:=zx (τ.r.from k);have o:=zh (W k c);rw[<-l] at o;have D:k<τ.tabs.length:=by rw[<-n];exact c
   have I:τ.tabs.length<=100:=by rw[<-n];exact x
   go_wp2_with fail;refine zb (cH _ _ k _ j.reach V C) λw2 m=>?_
   rw[<-l];have J:=A.below m;have K:=ai a m;have L:=j.below m;clear l;go_wp2_with fail;refine(CK J k c x F o).mono ?_;rintro e a0 ⟨u,rfl,M,a1,p⟩;have N:=ai K p;have O:=L.below p;clear c0 d f g h;go_wp2_with fail;refine(gG O k D I).mono ?_;rintro e a2 ⟨a3,rfl,q,v⟩;rw[<-n] at q;have P:=(aB.own q).1;have Q:=M.below v;have R:=ai N v;go_wp2_with fail;refine zb (AW Q P) λa4 S=>?_
   have T:=ai R S;go_wp2;go_roundw
   case rel=>exact⟨k+1,c,by go_num,T⟩
   case measure=>simp[intOf];omega
  ·go_wp2
   go_ret;exact⟨rfl,a⟩
end
def Lp(B:Nat)(o:Obj):br kM:= .rel (λv w=> ∃b,v= .pointer (some ⟨b,0,none⟩)/\B<=b/\w.heap[b]?=some o) (λ_ _ _ a c=>by obtain⟨b,d,e,f⟩:=a;exact⟨b,d,e,ab f c⟩)
def iO{B:Nat}{w:Qm}{x y:Qn}{P:PV}(e:my B w (.agg #[P.name,x,y]) P):aH w x P.l:=by
 obtain⟨a,b,c,d,_⟩:=e;injection c with c;simp only[PH,Pp,and_true,true_and] at c;rw[c.1];exact d
def ky{B:Nat}{w:Qm}{x y:Qn}{P:PV}(e:my B w (.agg #[P.name,x,y]) P):aE w y P.src:=by
 obtain⟨a,b,c,_,d,_⟩:=e;injection c with c;simp only[PH,Pp,and_true,true_and] at c;rw[c.2];exact d
def FE{B:Nat}{w:Qm}{x y:Qn}{P:PV}(e:my B w (.agg #[P.name,x,y]) P):iX B x:=by
 obtain⟨a,b,c,_,_,d,_⟩:=e;injection c with c;simp only[PH,Pp,and_true,true_and] at c;rw[c.1];exact d
def FF{B:Nat}{w:Qm}{x y:Qn}{P:PV}(e:my B w (.agg #[P.name,x,y]) P):iX B y:=by
 obtain⟨a,b,c,_,_,_,d⟩:=e;injection c with c;simp only[PH,Pp,and_true,true_and] at c;rw[c.2];exact d
def bh(r:RV)(n:ByteArray)(ql:List ah):PV:=⟨n,ql,dx r r.l ql ql.length⟩
def cw(τ:dJ)(P:PV):Int:=P.bound (cz (P.built τ).tabs (P.built τ).tabs.length)
section
variable{w w' w0 w2:Qm}{B E t:Nat}{τ:dJ}{tv lv fv:Qn}{ps:List bF}{n1:ByteArray}{ql:List ah}
def yz{v:Qn}(h4:hY w B E t τ tv fv lv ps)(a2:ie w v n1 ql)(h5:cD τ.r.name τ.r.l=true)(h6:cD n1 ql=true)(f6:(bh τ.r n1 ql).can τ):
 Qo zP 132 #[.pointer (some ⟨t,0,none⟩),v] w (JC w (el.empty (bh τ.r n1 ql) (cw τ (bh τ.r n1 ql)) 0)):=by
 have d7:=zh h4;have h7:=zh a2;have f7:=zh h5;have J:=zh h6;have f8:=zh f6;have f9:=zh (show aQ τ.r.now by have:=f6.now;unfold aQ;omega);obtain⟨j0,rfl,g0⟩:=a2;obtain⟨g1,g2,rfl,-⟩:=id g0;clear g0 h5 h6 f6;go_enter func132,ntmps132;go_wp2_with fail;obtain⟨a,d5⟩: ∃a,a=w.alloc (.cells #[.string n1,.slice g1 ql.length g2] 32):=⟨_,rfl⟩;have d6:Qr w.heap.size w a:=by rw[d5];exact ak _ _
 have g3:=zh (show a.heap[w.heap.size]?=some (.cells #[.string n1,.slice g1 ql.length g2] 32) by rw[d5];exact ag rfl);have TW:=d7.out.below d6;have g4:=h7.out.below d6;have K:=zh d6;rw[<-d5];clear d5 d6 h4;obtain⟨c0,g5,g6,g7,g8⟩:=eB TW.blk;obtain⟨g9,h0⟩:=bE g3.out;have h1:=aa TW.blk;have h2:=aa g3.out;have h3:a.drew.heap.size=a.heap.size:=rfl;refine aC (S:=(iz a)) 17 (by kernel_rfl) ?_ (λf=>?_)
 ·(first|exact ax _|exact aj _ _ f L|exact aj _ _ f ze|exact bP (ai y ze)|exact bP (ao (ao (ao y p) p) p))
 refine zT 0 ?_;refine zT 1 ?_;refine zT 2 ?_;refine zT 3 ?_;refine zT 4 ?_;refine zT 5 ?_;refine zT 6 ?_;refine zT 7 ?_;refine zT 8 ?_;refine zT 9 ?_;refine fV (i:=10) (j:=14) rfl rfl (by kernel_rfl) (λC c=>?_) (λC c=>?_)
 ·go_simp
  refine(sQ (r:=τ.r) (n0:=τ.r.name) (n1:=n1) (l:=τ.r.l) (ql:=ql) ⟨_,rfl,(TW.below f.1).tiers.1⟩ (TW.below f.1).reach (g4.below f.1) f7.out J.out f9.out).mono ?_;rintro e w2 ⟨u,rfl,a3,L⟩;have y:=ai f.1 L;have p:a.heap.size<=a.drew.heap.size:=Nt _;have A:=zh a3;obtain⟨h8,h9,rfl,a4,a5,d8,d9⟩:=a3;obtain⟨g,h,rfl,-⟩:=id a4;obtain⟨m,n,rfl,-⟩:=id a5;clear a4 a5 d8 d9;refine zE c (by first|exact ax _|exact aj _ _ f L|exact aj _ _ f ze|exact bP (ai y ze)|exact bP (ao (ao (ao y p) p) p)) λf=>?_
  refine zT 11 ?_;refine zT 12 ?_;refine zT 13 ?_;refine zO 14 λC c=>?_
  go_simp
  skip
  refine zE c (by first|exact ax _|exact aj _ _ f L|exact aj _ _ f ze|exact bP (ai y ze)|exact bP (ao (ao (ao y p) p) p)) λf=>?_
  refine zO 15 λC c=>?_
  (try(have M:w2.heap[a.heap.size]?=some (.cells #[.string ⟨#[]⟩,.slice none 0 0,.slice none 0 0] 93):=ab (ag (w:=a.drew) rfl) L;obtain⟨z0,z1,z2⟩:=aW M;have i0:=ad (o:=0) M;have i1:=ad (o:=1) M;have i2:=ad (o:=2) M));go_simp
  refine zE c (by first|exact ax _|exact aj _ _ f L|exact aj _ _ f ze|exact bP (ai y ze)|exact bP (ao (ao (ao y p) p) p)) λf=>?_
  refine zT 16 ?_;refine zH ?_
  first
   |(have T:(((w2.setCell ⟨a.heap.size,0,none⟩ (.string n1)).setCell ⟨a.heap.size,1,none⟩ (.slice g ql.length h)).setCell ⟨a.heap.size,2,none⟩ (.slice m (dx τ.r τ.r.l ql ql.length).length n)).heap[a.heap.size]?=some (.cells #[.string n1,.slice g ql.length h,.slice m (dx τ.r τ.r.l ql ql.length).length n] 93):=bW _ _ _ M
     have U:aH (((w2.setCell ⟨a.heap.size,0,none⟩ (.string n1)).setCell ⟨a.heap.size,1,none⟩ (.slice g ql.length h)).setCell ⟨a.heap.size,2,none⟩ (.slice m (dx τ.r τ.r.l ql ql.length).length n)) (.slice g ql.length h) ql:=co (iO A.out) (fu (iO A.out) (FE A.out)) (by simp) λk V _=>aR _ _ _ (by simp at V;omega)
     have W:aE (((w2.setCell ⟨a.heap.size,0,none⟩ (.string n1)).setCell ⟨a.heap.size,1,none⟩ (.slice g ql.length h)).setCell ⟨a.heap.size,2,none⟩ (.slice m (dx τ.r τ.r.l ql ql.length).length n)) (.slice m (dx τ.r τ.r.l ql ql.length).length n) (dx τ.r τ.r.l ql ql.length):=da (ky A.out) (jh (ky A.out) (FF A.out)) (by simp) λk V _=>aR _ _ _ (by simp at V;omega)
     have O:Qr w.heap.size w (((w2.setCell ⟨a.heap.size,0,none⟩ (.string n1)).setCell ⟨a.heap.size,1,none⟩ (.slice g ql.length h)).setCell ⟨a.heap.size,2,none⟩ (.slice m (dx τ.r τ.r.l ql ql.length).length n)):=ao (ao (ao (K.out.trans (y.mono K.out.size)) K.out.size) K.out.size) K.out.size)
   |(have T:(w2.alloc (.cells #[.string n1,.slice g ql.length h,.slice m (dx τ.r τ.r.l ql ql.length).length n] 93)).heap[w2.heap.size]?=some (.cells #[.string n1,.slice g ql.length h,.slice m (dx τ.r τ.r.l ql ql.length).length n] 93):=ag rfl
     have U:aH (w2.alloc (.cells #[.string n1,.slice g ql.length h,.slice m (dx τ.r τ.r.l ql ql.length).length n] 93)) (.slice g ql.length h) ql:=(iO A.out).below ze;have W:aE (w2.alloc (.cells #[.string n1,.slice g ql.length h,.slice m (dx τ.r τ.r.l ql ql.length).length n] 93)) (.slice m (dx τ.r τ.r.l ql ql.length).length n) (dx τ.r τ.r.l ql ql.length):=(ky A.out).below ze;have O:Qr w.heap.size w (w2.alloc (.cells #[.string n1,.slice g ql.length h,.slice m (dx τ.r τ.r.l ql ql.length).length n] 93)):=ai (K.out.trans (y.mono K.out.size)) ze)
  have X:=zh T;have e0:=zh U;have e1:=zh W;have e2:=zh O;have e3:=d7.out.below O;clear f T U W O A c0 g5 g6 g7 g8 g9 h0 y;obtain⟨a6,a7,a8⟩:=aW X.out;have a9:=aa X.out;have b0:fx _ (.agg #[.string n1,.slice g ql.length h,.slice m (dx τ.r τ.r.l ql ql.length).length n]) (bh τ.r n1 ql):=⟨_,_,rfl,e0.out,e1.out⟩;have b1:=zh b0;clear b0 L p h3 h1 h2;go_wp2_with fail;refine(hI b1.out e3 f8.out).mono ?_;rintro e H ⟨i3,rfl,e4,P⟩;have b2:=zh (ab X.out P);have b3:=b1.out.below P;have e5:=ai e2.out P;obtain⟨i4,i5,i6,i7,b4⟩:=e4;have e6:=zh b4;clear P b4 a6 a7 a8 a9;obtain⟨a6,a7,a8⟩:=aW b2.out;have a9:=aa b2.out;have Y:((bh τ.r n1 ql).built τ).tabs.length=ql.length:=gQ _ _ _;have b5:=aN J.out;have b6:=fw ((bh τ.r n1 ql).built τ).tabs ((bh τ.r n1 ql).built τ).tabs.length;have e7:=(bh τ.r n1 ql).fills_bd (cE J.out);obtain⟨D,Z⟩: ∃D,D=cz ((bh τ.r n1 ql).built τ).tabs ((bh τ.r n1 ql).built τ).tabs.length:=⟨_,rfl⟩;have b7:=zh Z;have b8:=zh b5;have b9:=zh Y;rw[<-Z,Y] at b6;have i8:0<=D/\D<=5:=by omega
  clear b6 Z b5 Y e7;obtain⟨q,Q⟩: ∃q,q=cw τ (bh τ.r n1 ql):=⟨_,rfl⟩;have a0:(bh τ.r n1 ql).bound D=q:=by rw[Q];unfold cw;rw[<-b7.out]
  have c1:0<=q:=by have:=(bh τ.r n1 ql).fills_bd (cE J.out);rw[<-a0];unfold PV.bound;omega
  have c2:0<(bh τ.r n1 ql).steps:=by have:=(bh τ.r n1 ql).fills_bd (cE J.out);unfold PV.steps;omega
  have e8:=zh c1;have e9:=zh c2;have f0:=zh a0;have f1:=zh Q;have f2:0<=D/\D<=1000000:=by omega
  rw[<-Q];clear a0 c1 c2 Q;go_wp2_with fail;refine eE (R:=kM) (S:=(iz H)) 10 (br.val ?_::br.val ?_::br.val ?_::br.val ?_::br.val ?_::(CF H (el.empty (bh τ.r n1 ql) q 0))::(vY H (el.empty (bh τ.r n1 ql) q 0))::br.val ?_::(vY H (el.empty (bh τ.r n1 ql) q 0))::br.val ?_:: []) (by kernel_rfl) (by kernel_rfl) rfl (aj) zq ?hm60a
  case' hm60a=>skip
  iterate 3
   refine zV ?_
  refine aw zk rfl rfl ?_ ?_
  ·intro I d x C c;have N:=d.2;go_simp;refine zb (iL (e6.out.below d.1) (by rw[b9.out];have:=b8.out.2.1;omega) (by rw[b9.out];have:=b8.out.1;omega)) λc3 a1=>?_;rw[<-b7.out];exact c.out _ _ zz a1
  refine aw zk rfl rfl ?_ ?_
  ·intro I d x C c;have N:=d.2;go_simp;refine zb (qN (b3.below d.1) (cE J.out) D f2) λc3 a1=>?_;rw[f0.out];exact c.out _ _ zz a1
  refine aT zk rfl rfl ?_ λc4=>?_
  ·intro I d x C c;have N:=d.2;go_simp;refine(ka (b3.below d.1) J.out (qO zl) q 0 e8.out (Ov _) e9.out).mono ?_;rintro e c3 ⟨c5,c6,c7,c8,c9,rfl,F⟩;exact c.out _ _ _ zg ⟨c5,c6,c7,c8,c9,rfl,F.base d.1⟩ F.bel
  simp only[zS];refine aT zk rfl rfl ?_ λi9=>?_
  ·intro I d x C c;have N:=d.2;go_simp;obtain⟨d0,d1,d2,d3,d4,rfl,F⟩: ∃s tv sv lv ps,c4= .tuple #[.pointer (some ⟨s,0,none⟩),.int .i64 0]/\kW H I s (el.empty (bh τ.r n1 ql) q 0) tv sv lv ps:=x.out 5 (by kernel_rfl);go_simp;exact c.out _ _ _ zg ⟨d0,d1,d2,d3,d4,rfl,F⟩ zr
  simp only[zS];refine aw zk rfl rfl ?_ ?_
  ·intro I d x C c;have N:=d.2;go_simp;obtain⟨d0,d1,d2,d3,d4,rfl,F⟩: ∃s tv sv lv ps,c4= .tuple #[.pointer (some ⟨s,0,none⟩),.int .i64 0]/\kW H I s (el.empty (bh τ.r n1 ql) q 0) tv sv lv ps:=x.out 5 (by kernel_rfl);go_simp;exact c.out _ _ zz zr
  refine aT zk rfl rfl ?_ λf3=>?_
  ·intro I d x C c;have N:=d.2;go_simp;exact c.out _ _ _ zg (x.out 6 (by kernel_rfl)) zr
  simp only[zS];refine zV ?_;refine zD λf4 d x=>?_
  obtain⟨c5,c6,c7,c8,c9,a2,F⟩: ∃s tv sv lv ps,f3= .pointer (some ⟨s,0,none⟩)/\kW H f4 s (el.empty (bh τ.r n1 ql) q 0) tv sv lv ps:=x.out 8;subst a2;have f5:=zh (F.base e5);clear F d x;go_wp2;go_ret2;exact⟨_,_,_,_,_,rfl,by rw[<-f1.out];exact f5.out⟩
 ·go_simp
  skip
  refine zE c (by first|exact ax _|exact aj _ _ f L|exact aj _ _ f ze|exact bP (ai y ze)|exact bP (ao (ao (ao y p) p) p)) λf=>?_
  refine zO 10 λC c=>?_
  go_simp;refine(sQ (r:=τ.r) (n0:=τ.r.name) (n1:=n1) (l:=τ.r.l) (ql:=ql) ⟨_,rfl,(TW.below f.1).tiers.1⟩ (TW.below f.1).reach (g4.below f.1) f7.out J.out f9.out).mono ?_;rintro e w2 ⟨u,rfl,a3,L⟩;have y:=ai f.1 L;have p:a.heap.size<=a.drew.heap.size:=Nt _;have A:=zh a3;obtain⟨h8,h9,rfl,a4,a5,d8,d9⟩:=a3;obtain⟨g,h,rfl,-⟩:=id a4;obtain⟨m,n,rfl,-⟩:=id a5;clear a4 a5 d8 d9;refine zE c (by first|exact ax _|exact aj _ _ f L|exact aj _ _ f ze|exact bP (ai y ze)|exact bP (ao (ao (ao y p) p) p)) λf=>?_
  refine zT 11 ?_;refine zT 12 ?_;refine zT 13 ?_;refine zO 15 λC c=>?_
  (try(have M:w2.heap[a.heap.size]?=some (.cells #[.string ⟨#[]⟩,.slice none 0 0,.slice none 0 0] 93):=ab (ag (w:=a.drew) rfl) L;obtain⟨z0,z1,z2⟩:=aW M;have i0:=ad (o:=0) M;have i1:=ad (o:=1) M;have i2:=ad (o:=2) M));go_simp
  refine zE c (by first|exact ax _|exact aj _ _ f L|exact aj _ _ f ze|exact bP (ai y ze)|exact bP (ao (ao (ao y p) p) p)) λf=>?_
  refine zT 16 ?_;refine zH ?_
  first
   |(have T:(((w2.setCell ⟨a.heap.size,0,none⟩ (.string n1)).setCell ⟨a.heap.size,1,none⟩ (.slice g ql.length h)).setCell ⟨a.heap.size,2,none⟩ (.slice m (dx τ.r τ.r.l ql ql.length).length n)).heap[a.heap.size]?=some (.cells #[.string n1,.slice g ql.length h,.slice m (dx τ.r τ.r.l ql ql.length).length n] 93):=bW _ _ _ M
     have U:aH (((w2.setCell ⟨a.heap.size,0,none⟩ (.string n1)).setCell ⟨a.heap.size,1,none⟩ (.slice g ql.length h)).setCell ⟨a.heap.size,2,none⟩ (.slice m (dx τ.r τ.r.l ql ql.length).length n)) (.slice g ql.length h) ql:=co (iO A.out) (fu (iO A.out) (FE A.out)) (by simp) λk V _=>aR _ _ _ (by simp at V;omega)
     have W:aE (((w2.setCell ⟨a.heap.size,0,none⟩ (.string n1)).setCell ⟨a.heap.size,1,none⟩ (.slice g ql.length h)).setCell ⟨a.heap.size,2,none⟩ (.slice m (dx τ.r τ.r.l ql ql.length).length n)) (.slice m (dx τ.r τ.r.l ql ql.length).length n) (dx τ.r τ.r.l ql ql.length):=da (ky A.out) (jh (ky A.out) (FF A.out)) (by simp) λk V _=>aR _ _ _ (by simp at V;omega)
     have O:Qr w.heap.size w (((w2.setCell ⟨a.heap.size,0,none⟩ (.string n1)).setCell ⟨a.heap.size,1,none⟩ (.slice g ql.length h)).setCell ⟨a.heap.size,2,none⟩ (.slice m (dx τ.r τ.r.l ql ql.length).length n)):=ao (ao (ao (K.out.trans (y.mono K.out.size)) K.out.size) K.out.size) K.out.size)
   |(have T:(w2.alloc (.cells #[.string n1,.slice g ql.length h,.slice m (dx τ.r τ.r.l ql ql.length).length n] 93)).heap[w2.heap.size]?=some (.cells #[.string n1,.slice g ql.length h,.slice m (dx τ.r τ.r.l ql ql.length).length n] 93):=ag rfl
     have U:aH (w2.alloc (.cells #[.string n1,.slice g ql.length h,.slice m (dx τ.r τ.r.l ql ql.length).length n] 93)) (.slice g ql.length h) ql:=(iO A.out).below ze;have W:aE (w2.alloc (.cells #[.string n1,.slice g ql.length h,.slice m (dx τ.r τ.r.l ql ql.length).length n] 93)) (.slice m (dx τ.r τ.r.l ql ql.length).length n) (dx τ.r τ.r.l ql ql.length):=(ky A.out).below ze;have O:Qr w.heap.size w (w2.alloc (.cells #[.string n1,.slice g ql.length h,.slice m (dx τ.r τ.r.l ql ql.length).length n] 93)):=ai (K.out.trans (y.mono K.out.size)) ze)
  have X:=zh T;have e0:=zh U;have e1:=zh W;have e2:=zh O;have e3:=d7.out.below O;clear f T U W O A c0 g5 g6 g7 g8 g9 h0 y;obtain⟨a6,a7,a8⟩:=aW X.out;have a9:=aa X.out;have b0:fx _ (.agg #[.string n1,.slice g ql.length h,.slice m (dx τ.r τ.r.l ql ql.length).length n]) (bh τ.r n1 ql):=⟨_,_,rfl,e0.out,e1.out⟩;have b1:=zh b0;clear b0 L p h3 h1 h2;go_wp2_with fail;refine(hI b1.out e3 f8.out).mono ?_;rintro e H ⟨i3,rfl,e4,P⟩;have b2:=zh (ab X.out P);have b3:=b1.out.below P;have e5:=ai e2.out P;obtain⟨i4,i5,i6,i7,b4⟩:=e4;have e6:=zh b4;clear P b4 a6 a7 a8 a9;obtain⟨a6,a7,a8⟩:=aW b2.out;have a9:=aa b2.out;have Y:((bh τ.r n1 ql).built τ).tabs.length=ql.length:=gQ _ _ _;have b5:=aN J.out;have b6:=fw ((bh τ.r n1 ql).built τ).tabs ((bh τ.r n1 ql).built τ).tabs.length;have e7:=(bh τ.r n1 ql).fills_bd (cE J.out);obtain⟨D,Z⟩: ∃D,D=cz ((bh τ.r n1 ql).built τ).tabs ((bh τ.r n1 ql).built τ).tabs.length:=⟨_,rfl⟩;have b7:=zh Z;have b8:=zh b5;have b9:=zh Y;rw[<-Z,Y] at b6;have i8:0<=D/\D<=5:=by omega
  clear b6 Z b5 Y e7;obtain⟨q,Q⟩: ∃q,q=cw τ (bh τ.r n1 ql):=⟨_,rfl⟩;have a0:(bh τ.r n1 ql).bound D=q:=by rw[Q];unfold cw;rw[<-b7.out]
  have c1:0<=q:=by have:=(bh τ.r n1 ql).fills_bd (cE J.out);rw[<-a0];unfold PV.bound;omega
  have c2:0<(bh τ.r n1 ql).steps:=by have:=(bh τ.r n1 ql).fills_bd (cE J.out);unfold PV.steps;omega
  have e8:=zh c1;have e9:=zh c2;have f0:=zh a0;have f1:=zh Q;have f2:0<=D/\D<=1000000:=by omega
  rw[<-Q];clear a0 c1 c2 Q;go_wp2_with fail;refine eE (R:=kM) (S:=(iz H)) 10 (br.val ?_::br.val ?_::br.val ?_::br.val ?_::br.val ?_::(CF H (el.empty (bh τ.r n1 ql) q 0))::(vY H (el.empty (bh τ.r n1 ql) q 0))::br.val ?_::(vY H (el.empty (bh τ.r n1 ql) q 0))::br.val ?_:: []) (by kernel_rfl) (by kernel_rfl) rfl (aj) zq ?hm60b
  case' hm60b=>skip
  iterate 3
   refine zV ?_
  refine aw zk rfl rfl ?_ ?_
  ·intro I d x C c;have N:=d.2;go_simp;refine zb (iL (e6.out.below d.1) (by rw[b9.out];have:=b8.out.2.1;omega) (by rw[b9.out];have:=b8.out.1;omega)) λc3 a1=>?_;rw[<-b7.out];exact c.out _ _ zz a1
  refine aw zk rfl rfl ?_ ?_
  ·intro I d x C c;have N:=d.2;go_simp;refine zb (qN (b3.below d.1) (cE J.out) D f2) λc3 a1=>?_;rw[f0.out];exact c.out _ _ zz a1
  refine aT zk rfl rfl ?_ λc4=>?_
  ·intro I d x C c;have N:=d.2;go_simp;refine(ka (b3.below d.1) J.out (qO zl) q 0 e8.out (Ov _) e9.out).mono ?_;rintro e c3 ⟨c5,c6,c7,c8,c9,rfl,F⟩;exact c.out _ _ _ zg ⟨c5,c6,c7,c8,c9,rfl,F.base d.1⟩ F.bel
  simp only[zS];refine aT zk rfl rfl ?_ λi9=>?_
  ·intro I d x C c;have N:=d.2;go_simp;obtain⟨d0,d1,d2,d3,d4,rfl,F⟩: ∃s tv sv lv ps,c4= .tuple #[.pointer (some ⟨s,0,none⟩),.int .i64 0]/\kW H I s (el.empty (bh τ.r n1 ql) q 0) tv sv lv ps:=x.out 5 (by kernel_rfl);go_simp;exact c.out _ _ _ zg ⟨d0,d1,d2,d3,d4,rfl,F⟩ zr
  simp only[zS];refine aw zk rfl rfl ?_ ?_
  ·intro I d x C c;have N:=d.2;go_simp;obtain⟨d0,d1,d2,d3,d4,rfl,F⟩: ∃s tv sv lv ps,c4= .tuple #[.pointer (some ⟨s,0,none⟩),.int .i64 0]/\kW H I s (el.empty (bh τ.r n1 ql) q 0) tv sv lv ps:=x.out 5 (by kernel_rfl);go_simp;exact c.out _ _ zz zr
  refine aT zk rfl rfl ?_ λf3=>?_
  ·intro I d x C c;have N:=d.2;go_simp;exact c.out _ _ _ zg (x.out 6 (by kernel_rfl)) zr
  simp only[zS];refine zV ?_;refine zD λf4 d x=>?_
  obtain⟨c5,c6,c7,c8,c9,a2,F⟩: ∃s tv sv lv ps,f3= .pointer (some ⟨s,0,none⟩)/\kW H f4 s (el.empty (bh τ.r n1 ql) q 0) tv sv lv ps:=x.out 8;subst a2;have f5:=zh (F.base e5);clear F d x;go_wp2;go_ret2;exact⟨_,_,_,_,_,rfl,by rw[<-f1.out];exact f5.out⟩
end
def dI{P:Program}{h:Func}{p u x:Tmp}{c:Qp}(k:h.results=#[.cell p c,.tmp u,.tmp x])(tmps:Array Qn)(w:Qm)(g:Nat)(t:Qp)(f:Array Qn)(fr:Nat×Nat)(d:TypeDesc)(y z:Qn)
 (l:tmps.getD p undef= .pointer (some ⟨g,0,none⟩)) (m:tmps.getD u undef=y) (n:tmps.getD x undef=z) (o:w.heap[g]?=some (.cells f t fr))
 (q:P.underlying c=some d) (r:(match d with| .struct _| .array _ _=>true|_=>false)=true) (s:(P.info? c).map (·.size)=some f.size):
 (results h tmps).run P w= .ok (.tuple #[.agg f,y,z]) w:=by
 have e:(results h tmps).run P w=((asAddr (tmps.getD p undef)).run P w).andThen λa i=>((loadVar c a).run P i).andThen λv j=> .ok (.tuple #[v,tmps.getD u undef,tmps.getD x undef]) j:=by
  simp only[results,k];simp[Sem.run_bind,Result.andThen]
 rw[e,l,m,n];simp[asAddr,Result.andThen,run_loadVar_row w g t c f fr d o q r s]
def FG{v:Qn}{w:Qm}{p b:Nat}{e:Int}(f:Qs (bN w p e b []))(g:aB 7 ay.cells w v []):Qo zP 202 #[p,v] w (aK w (.int .i64 0)):=by
 obtain⟨a,c,rfl,-,-⟩:=g;go_enter func202,ntmps202;go_wp2_with fail;refine zb (jQ f.blk) λh d=>?_
 go_wp2_with fail;refine NM 1 ?_;rw[NF];go_wp2;go_ret;exact⟨rfl,d⟩
def IA{v:Qn}{w:Qm}{p b:Nat}{e:Int}{L:List ay}(a:bN w p e b [])(j:aQ e)(d:aB 7 ay.cells w v L)(k:L.length<=1)(f: ∀r∈L,r.ok/\cI e r=true):
 Qo zP 202 #[p,v] w (λx w'=> ∃n,x= .returned (.int .i64 n)/\Qs (bN w' p e b (fH L.head?))/\Qs (Ch (·=b) w w')):=by
 match L,k with
 | [],_=>
  refine zb (FG a d) λg c=>?_
  exact⟨_,rfl,a.below c,Ch.fresh c⟩
 | [r],_=>
  refine(mt a j d (f r zm).1 (f r zm).2).mono ?_;rintro x g ⟨rfl,h,i⟩;exact⟨_,rfl,h,i⟩
def PV.can.tab_ok{P:PV}{τ:dJ}(a:P.can τ)(d: ∀k,rS (τ.tabs.getD k none)){i:Nat}(c:i<P.l.length): ∀r∈P.tab τ i,r.ok/\cI (P.l.getD i ah.zero).every r=true/\(P.reach τ.r).from i<=r.start:=
 AV (d _) (a.recs i c) (a.pe i c)
section
variable{w w' w0 w2:Qm}{B E s t B2 E2:Nat}{σ:el}{τ:dJ}{tv sv lv fv tv2 lv2:Qn}{ps ps2:List bF}{o:Option ay}
def mS.setDone(a:mS w B E s σ tv sv lv ps)(n:Int):mS (w.setCell ⟨s,4,none⟩ (.int .i64 n)) B E s {σ with done:=n} tv sv lv ps:=by
 have c: ∀k,k≠s->(w.setCell ⟨s,4,none⟩ (.int .i64 n)).heap[k]?=w.heap[k]?:=λk c=>af _ c
 exact⟨by rw[al a.blk];rfl,⟨co a.tiers.1 a.tiers.2 zm λk _ d=>c k zo,a.tiers.2⟩,⟨da a.src.1 a.src.2 zm λk _ d=>c k zo,a.src.2⟩,a.tabs.step zm λk e _=>c k zo,a.len,a.iv.1,by simpa using a.iv.2⟩
def mS.put{k:Nat}{p:bF}(a:mS w B E s σ tv sv lv ps)(h:rS o)(g:ps[k]?=some p)(c:Ch (·=p.2) w w')(i:bN w' p.1 (σ.es.getD k 0) p.2 (fH o)):mS w' B E s {σ with tabs:=σ.tabs.set k o} tv sv lv ps:=by
 have l:=(a.tabs.iv k p g).2;have d: ∀j,j<w.heap.size->j≠p.2->w'.heap[j]?=w.heap[j]?:=λj e f=>c.block j e f
 have m:=a.iv;exact⟨(d s zo zo).trans a.blk,⟨co a.tiers.1 a.tiers.2 c.size λk e f=>d k zo zo,a.tiers.2⟩,⟨da a.src.1 a.src.2 c.size λk e f=>d k zo zo,a.src.2⟩,a.tabs.put h g c i,by simpa using a.len,a.iv.1,Nq a.iv.2 c.size⟩
def uq(w:Qm)(B E s:Nat)(σ:el)(st:CD)(e:Qq)(w':Qm):Prop:=e= .returned (.tuple #[st.val,.pointer none,()])/\Qs (nH w' B E s σ)/\Ch (λk=>B<=k/\k<E) w w'
def sS(H:Qs (mS w B E s σ tv sv lv ps))(a1:Qs σ.ok)(e3:Qs (hY w B2 E2 t τ tv2 fv lv2 ps2))(b6:Qs (σ.P.can τ))(i:Nat)(k:Int)(j1:Qs (σ.P.at σ.done=⟨1,i,k⟩))(C:i<σ.P.l.length)(j2:Qs (σ.tabs.getD i none=none))(e4:aQ k):
 Qo zP 134 #[s,t] w (uq w B E s ⟨σ.P,σ.bound,σ.done+1,σ.tabs.set i (fK (σ.P.tab τ i) (kV (σ.P.tab τ i) (σ.P.l.getD i ah.zero).shards k)).head?⟩ ⟨1,i,k⟩):=by
 have j3:=zh e4;have e5:=(aN a1.pol).1;clear e4;obtain⟨c0,f,g,h,l,m⟩:=di H.blk;have e6:=aa H.blk;go_enter func134,ntmps134;go_wp2_with fail;refine(hI (H.below ze).plan (e3.below ze) b6).mono ?_;rintro e T ⟨j4,rfl,e7,e8⟩;obtain⟨b7,a2⟩:=bl e8;have e9:=zh b7;have f0:=zh a2;have b8:=H.below a2;clear b7 a2 c0 f g h l m;go_wp2_with fail;refine zb (nJ b8 a1) λw2 U=>?_
 rw[j1];have f1:=zh (ab e9 U);have B2:=ai f0 U;have f2:=e7.below U;have a3:=b8.below U;simp only[CD.val];obtain⟨c0,f,g,h,l,m⟩:=di a3.blk;have f3:=aa a3.blk;go_wp2_with fail;obtain⟨a4,V⟩:=zx (w2.alloc (.cells #[(1:Int),(i:Int),k] 97));have M:Qr w2.heap.size w2 a4:=by rw[V];exact ak _ _
 have a5:=zh (show a4.heap[w2.heap.size]?=some (.cells #[(1:Int),(i:Int),k] 97) by rw[V];exact ag rfl);have f4:=zh (ab f1 M);have f5:=ai B2 M;have TW:=f2.below M;have O:=a3.below M;rw[<-V];clear V M c0 f g h l m f3;obtain⟨c0,f,g,h,l,m⟩:=di O.blk;obtain⟨D,F,I⟩:=aW a5;have P:=aa O.blk;have J:=aa a5;obtain⟨j5,j6,rfl,-⟩:=id O.tiers.1;obtain⟨j7,j8,e,j9,⟨f6,f7,f8,b9⟩,c1,f9⟩:=bS O.tiers.1 C;subst e;obtain⟨N,c2⟩:=zy ((σ.P.l.getD i ah.zero).shards);have c3:=zh c1.2.2.2;rw[<-c2] at b9 c3⊢;clear c1 f9;refine zJ a4 12 (zL [?_,?_,?_,?_,?_,?_,?_,?_,?_,?_,?_,?_]) zq ?_;rotate_right
 iterate 12
  refine zV ?_
 refine zD λc4 a n=>?_
 have a6:=zh (ab a5 a.1);have g0:=zh (ab f4 a.1);have g1:=ai f5 a.1;have g2:=TW.below a.1;have K:=O.below a.1;clear a n c0 f g h l m D F I f6 f7 f8 b9 P J;obtain⟨c0,f,g,h,l,m⟩:=di K.blk;obtain⟨D,F,I⟩:=aW a6;have P:=aa K.blk;have J:=aa a6;have g3:i<σ.tabs.length:=by rw[K.len];exact C
 obtain⟨_,b,o,c,p,rfl,-,c5,c6,c7,a7⟩:=K.tabs.elem g3;rw[j2] at a7;have c8:=zh (show bN c4 _ _ _ [] from a7);have c9:=zh c6;have k0:σ.tabs.length<=5:=by rw[K.len];exact e5
 clear a7 c6;go_wp2_with fail;refine zJ c4 12 (zL [?_,?_,?_,?_,?_,?_,?_,?_,?_,?_,?_,?_]) zq ?_;rotate_right
 iterate 11
  refine zV ?_
 refine aw zk rfl rfl ?_ ?_
 ·intro T a n d0 Q;have d1:=a.2;go_simp;refine zb (yq (c8.below a.1) k N) λa8 R=>?_;exact Q.out _ _ zz R
 simp only[zS];refine zD λa8 a n=>?_
 have q:=a.1;have a9:=zh (ab a6 q);have g4:=zh (ab g0 q);have g5:=ai g1 q;have g6:=zh (g2.below q);have b0:=K.below q;have g7:=c8.below q;have g8:=ae c7 q;have k1:b<a8.heap.size:=No c5 q.size;clear a q n c0 f g h l m D F I P J c7 c5;obtain⟨c0,f,g,h,l,m⟩:=di b0.blk;obtain⟨D,F,I⟩:=aW a9;have P:=aa b0.blk;have J:=aa a9;obtain⟨k2,k3,k4,k5,d2⟩:=g6.out;have d3:=zh d2;have d4:Qs ((σ.P.built τ).tabs.length=σ.P.l.length):=gQ _ _ _;have g9:i<(σ.P.built τ).tabs.length:=by rw[d4];exact C
 have h0:(σ.P.built τ).tabs.length<=100:=by rw[d4];omega
 have b1:=zh (show(σ.P.built τ).tabs.getD i none=σ.P.tab τ i by unfold PV.built cm;simp[C]);obtain⟨d,b2⟩:=zy (σ.P.tab τ i);have W:=d3.tabs.okD i;rw[b1] at W;rw[<-b2] at W b1⊢;have h1:=zh W;clear d2 W;go_wp2_with fail;refine zJ a8 16 (zL [?_,?_,?_,?_,?_,?_,?_,?_,?_,?_,?_]++(Iu 0 ((σ.P.built τ).es.getD i 0) d)::zL [?_,?_,?_]++(vS (fK d (kV d N k))):: []) zq ?_;rotate_right
 iterate 11
  refine zV ?_
 refine aT zk rfl rfl ?_ λh2=>?_
 ·intro T a n d0 Q;have d1:=a.2;go_simp;refine(lA (d3.below a.1) i g9 h0).mono ?_;rintro e w2 ⟨p,b,rfl,X,-,-,R⟩;rw[b1] at X;exact Q.out _ _ _ zg ⟨p,b,rfl,Nx _,Nx _,X⟩ R
 simp only[zS]
 iterate 3
  refine zV ?_
 refine aT zk rfl rfl ?_ λh3=>?_
 ·intro T a n d0 Q;have d1:=a.2;go_simp;obtain⟨p,b,rfl,-,-,X⟩: ∃p b,h2= .pointer (some ⟨p,0,none⟩)/\0<=p/\0<=b/\bN T p ((σ.P.built τ).es.getD i 0) b (fH d):=n.out 11 zk;refine(yt X h1 k N c3).mono ?_;rintro e w2 ⟨u,rfl,h4,-,R⟩;exact Q.out _ _ _ zg h4 R
 simp only[zS];refine zA λw7 a n=>?_
 have h5:Qs (aB 7 ay.cells w7 h3 (fK d (kV d N k))):=n.out 15;have h6:=zh (ab a9 a.1);have h7:=zh (ab g4 a.1);have h8:=ai g5 a.1;have b3:=b0.below a.1;have h9:=g7.below a.1;clear n a c0 f g h l m D F I P J g8;have b4:σ.es.getD i 0=(σ.P.l.getD i ah.zero).every:=by simp[el.es,C]
 have b5:=b6.tab_ok (λk=>e3.tabs.okD k) C;have i0:=b6.pe i C;rw[<-b2.out] at b5
 have d5:=zh (show∀r∈fK d (kV d N k),r.ok/\cI (σ.es.getD i 0) r=true from λr y=>by
  unfold fK at y;split at y
  ·cases y
  ·rw[b4];have:=b5 r (by cases d with|none=>cases y|some x=>simp at y;rw[y];rfl);exact⟨this.1,this.2.1⟩)
 have i1:=zh (show(fK d (kV d N k)).length<=1 by unfold fK;split<;>cases d<;>simp);have i2:=zh (show aQ (σ.es.getD i 0) by rw[b4];unfold aQ;omega);clear b4 b5 i0;go_wp2_with fail;refine(IA h9 i2 h5 i1 d5).mono ?_;rintro e A ⟨k6,rfl,i3,Y⟩;have S:=b3.put (k:=i) (o:=(fK d (kV d N k)).head?) (λr y=>(d5 r (List.mem_of_mem_head? y)).1) c9 Y i3;have d6:=b3.iv;have k7:=H.iv;have k8:=B2.size;have i4:=(b3.tabs.iv i p c9).2;have d7:=Y.keep h7 (λe=>by have e:w.heap.size=p.2:=e;omega);have d8:=Y.keep h6 (λe=>by have e:w2.heap.size=p.2:=e;have:=B2.size;omega);have i5:=zh (show Ch (λk=>B<=k/\k<E) w A from(Ch.fresh h8).trans (Y.mono λj _ e=>by have e:j=p.2:=e;show B<=j/\j<E;omega));have L:=zh d7;have d9:=zh d8;clear d7 d8 i4;obtain⟨c0,f,g,h,l,m⟩:=di S.blk;obtain⟨D,F,I⟩:=aW d9;rw[c2,b2.out] at S;have k9:=ad (o:=4) S.blk;have l0:=aa S.blk;have l1:=aa L;have J:=aa d9
 have i6:0<=σ.done/\σ.done<=100:=by
  have e0:=a1.done;have i7:=σ.P.fills_bd (cE a1.pol);unfold PV.steps at e0;omega
 have l2:wrap64 (σ.done+1)=σ.done+1:=by unfold wrap64;omega
 clear i6;have i8:w.heap.size≠s:=by have:=H.iv;have:=e6;omega
 have l3: ∀v o,(World.setCell A ⟨s,4,none⟩ v).frozen? ⟨w.heap.size,o,none⟩=false:=λv o=>(Qf _ _ _ _).trans (ad L)
 have Z:Qs (∀v,(World.setCell A ⟨s,4,none⟩ v).heap[w.heap.size]?=A.heap[w.heap.size]?):=λv=>af _ i8
 have z0: ∀v,(World.setCell A ⟨s,4,none⟩ v).cell? ⟨w.heap.size,0,none⟩=_:=λv=>(aW ((Z v).trans L)).1
 have z1: ∀v,(World.setCell A ⟨s,4,none⟩ v).cell? ⟨w.heap.size,1,none⟩=_:=λv=>(aW ((Z v).trans L)).2.1
 have z2: ∀v,(World.setCell A ⟨s,4,none⟩ v).cell? ⟨w.heap.size,2,none⟩=_:=λv=>(aW ((Z v).trans L)).2.2
 go_wp2_with fail;obtain⟨i9,a0⟩:=zx (World.setCell A ⟨s,4,none⟩ (.int .i64 (σ.done+1)));have e1:=S.setDone (σ.done+1);rw[<-a0] at e1;have e2:=(Z (.int .i64 (σ.done+1))).trans L;rw[<-a0] at e2;have d6:=H.iv;have j0:Ch (λk=>B<=k/\k<E) w i9:=by rw[a0];exact aP i5 (.inl d6.1)
 rw[<-a0];refine NG (v:= .tuple #[.agg #[(1:Int),(i:Int),k],.pointer none,()]) (dI results134 _ _ _ _ _ _ _ _ _ rfl rfl rfl (bW _ _ _ e2) underlying97 rfl zk) rfl ⟨rfl,?_,aP (aP (aP j0 (.inr zl)) (.inr zl)) (.inr zl)⟩;exact⟨_,_,_,_,e1.step zm λj e0 i7=>aR _ _ _ zo⟩
def qR(H:Qs (mS w B E s σ tv sv lv ps))(A:Qs σ.ok)(X:Qs (hY w B2 E2 t τ tv2 fv lv2 ps2))(I:Qs (σ.P.can τ))(c2:Qs (σ.P.at σ.done=⟨2,0,0⟩))(Y:Qs (σ.tabs=(σ.P.built τ).tabs)):
 Qo zP 134 #[s,t] w (uq w B E s ⟨σ.P,σ.bound,σ.done+1,σ.tabs⟩ ⟨2,0,0⟩):=by
 have c3:=(aN A.pol).1;obtain⟨c0,c,d,f,g,h⟩:=di H.blk;have Z:=aa H.blk;go_enter func134,ntmps134;go_wp2_with fail;refine(hI (H.below ze).plan (X.below ze) I).mono ?_;rintro e c4 ⟨c5,rfl,a0,a1⟩;obtain⟨J,C⟩:=bl a1;have a2:=zh J;have a3:=zh C;have K:=H.below C;clear J C c0 c d f g h;go_wp2_with fail;refine zb (nJ K A) λw2 n=>?_
 rw[c2];have a4:=zh (ab a2 n);have B2:=ai a3 n;have a5:=a0.below n;have D:=K.below n;simp only[CD.val];obtain⟨c0,c,d,f,g,h⟩:=di D.blk;have a6:=aa D.blk;go_wp2_with fail;obtain⟨L,p⟩:=zx (w2.alloc (.cells #[(2:Int),(),()] 97));have l:Qr w2.heap.size w2 L:=by rw[p];exact ak _ _
 have F:=zh (show L.heap[w2.heap.size]?=some (.cells #[(2:Int),(),()] 97) by rw[p];exact ag rfl);have a7:=zh (ab a4 l);have a8:=ai B2 l;have TW:=zh (a5.below l);have q:=D.below l;rw[<-p];clear p l c0 c d f g h a6;obtain⟨c0,c,d,f,g,h⟩:=di q.blk;obtain⟨M,N,O⟩:=aW F;have c6:=aa q.blk;have a9:=aa F;obtain⟨c7,c8,c9,d0,P⟩:=TW.out;have b0:=zh P;clear P;go_wp2_with fail;have b1:σ.tabs.length<=100:=by rw[H.len];omega
 refine(vZ q b0 ?_ Y b1 ?_).mono ?_
 ·show aQ τ.r.now
  have:=I.now;unfold aQ;omega
 ·intro k Q r R
  have S:k<σ.P.l.length:=by rw[H.len] at Q;exact Q
  have b2:(σ.P.built τ).tabs.getD k none=σ.P.tab τ k:=by unfold PV.built cm;simp[S]
  rw[Y,b2] at R;exact(I.tab_ok (λk=>X.tabs.okD k) S r R).2.2
 rintro e a ⟨rfl,m⟩;have T:=zh (ab F m);have i:=zh (ab a7 m);have b3:=ai a8 m;have u:=q.below m;have b4:=zh (show Ch (λk=>B<=k/\k<E) w a from Ch.fresh b3);clear m c0 c d f g h M N O;obtain⟨c0,c,d,f,g,h⟩:=di u.blk;obtain⟨M,N,O⟩:=aW T;have d1:=ad (o:=4) u.blk;have d2:=aa u.blk;have d3:=aa i;have a9:=aa T
 have b5:0<=σ.done/\σ.done<=100:=by
  have U:=A.done;have b6:=σ.P.fills_bd (cE A.pol);unfold PV.steps at U;omega
 have d4:wrap64 (σ.done+1)=σ.done+1:=by unfold wrap64;omega
 clear b5;have b7:w.heap.size≠s:=by have:=H.iv;have:=Z;omega
 have d5: ∀v o,(World.setCell a ⟨s,4,none⟩ v).frozen? ⟨w.heap.size,o,none⟩=false:=λv o=>(Qf _ _ _ _).trans (ad i)
 have x:Qs (∀v,(World.setCell a ⟨s,4,none⟩ v).heap[w.heap.size]?=a.heap[w.heap.size]?):=λv=>af _ b7
 have z0: ∀v,(World.setCell a ⟨s,4,none⟩ v).cell? ⟨w.heap.size,0,none⟩=_:=λv=>(aW ((x v).trans i)).1
 have z1: ∀v,(World.setCell a ⟨s,4,none⟩ v).cell? ⟨w.heap.size,1,none⟩=_:=λv=>(aW ((x v).trans i)).2.1
 have z2: ∀v,(World.setCell a ⟨s,4,none⟩ v).cell? ⟨w.heap.size,2,none⟩=_:=λv=>(aW ((x v).trans i)).2.2
 go_wp2_with fail;obtain⟨b8,y⟩:=zx (World.setCell a ⟨s,4,none⟩ (.int .i64 (σ.done+1)));have V:=u.setDone (σ.done+1);rw[<-y] at V;have W:=(x (.int .i64 (σ.done+1))).trans i;rw[<-y] at W;have b9:=H.iv;have c1:Ch (λk=>B<=k/\k<E) w b8:=by rw[y];exact aP b4 (.inl b9.1)
 rw[<-y];refine NG (v:= .tuple #[.agg #[(2:Int),(),()],.pointer none,()]) (dI results134 _ _ _ _ _ _ _ _ _ rfl rfl rfl (bW _ _ _ W) underlying97 rfl zk) rfl ⟨rfl,?_,aP (aP (aP c1 (.inr zl)) (.inr zl)) (.inr zl)⟩;exact⟨_,_,_,_,V.step zm λj U b6=>aR _ _ _ zo⟩
end
section
variable{w w' w0 w2:Qm}{B E s t B2 E2:Nat}{σ:el}{τ:dJ}{tv sv lv fv tv2 lv2:Qn}{ps ps2:List bF}{o:Option ay}
def dX.elem_at{b n c:Nat}{es:List Int}{tabs:List (Option ay)}{w:Qm}{B E:Nat}{ps:List bF}{o:Nat}(k:dX w B E (.slice (some ⟨b,o,none⟩) n c) es tabs ps){i:Nat}(l:i<tabs.length):
 b<w.heap.size/\ ∃p,ps[i]?=some p/\w.cell? ⟨b,o+i,none⟩=some (.pointer (some ⟨p.1,0,none⟩))/\bN w p.1 (es.getD i 0) p.2 (fH (tabs.getD i none)):=by
 obtain⟨_,m,o',c',p,e,-,d,f,g,h⟩:=k.elem l;injection e with a q r
 injection a with a
 injection a with a j s
 subst a j;exact⟨d,p,f,g,h⟩
def FH(w:Qm)(B E s:Nat)(σ:el)(τ:dJ)(e:Qq)(w':Qm):Prop:= ∃t,e= .returned (.tuple #[.agg #[.int .i64 3,.int .i64 0,.int .i64 0],.pointer (some ⟨t,0,none⟩),.int .i64 0])/\Qs (dY w' w.heap.size w'.heap.size t τ)/\Qs (nH w' B E s σ)/\Ch (λk=>B<=k/\k<E) w w'
def wa(H:Qs (mS w B E s σ tv sv lv ps))(Q:Qs σ.ok)(e1:Qs (hY w B2 E2 t τ tv2 fv lv2 ps2))(C:Qs (σ.P.can τ))(k0:Qs (σ.P.at σ.done=⟨3,0,0⟩))(e2:Qs (σ.tabs=(σ.P.built τ).tabs)):
 Qo zP 134 #[.pointer (some ⟨s,0,none⟩),.pointer (some ⟨t,0,none⟩)] w (FH w B E s ⟨σ.P,σ.bound,σ.done+1,σ.tabs⟩ (σ.P.built τ)):=by
 have e3:=(aN Q.pol).1;obtain⟨c0,h,l,m,n,c⟩:=di H.blk;have e4:=aa H.blk;go_enter func134,ntmps134;go_wp2_with fail;refine(hI (H.below ze).plan (e1.below ze) C).mono ?_;rintro e A ⟨a3,rfl,e5,e6⟩;obtain⟨b7,a4⟩:=bl e6;have e7:=zh b7;have e8:=zh a4;have b8:=H.below a4;clear b7 a4 c0 h l m n c;go_wp2_with fail;refine zb (nJ b8 Q) λw2 R=>?_
 rw[k0];have e9:=zh (ab e7 R);have B2:=ai e8 R;have f0:=e5.below R;have a5:=b8.below R;simp only[CD.val];obtain⟨c0,h,l,m,n,c⟩:=di a5.blk;have f1:=aa a5.blk;go_wp2_with fail;obtain⟨d,S⟩:=zx (w2.alloc (.cells #[.int .i64 3,.int .i64 0,.int .i64 0] 97));have N:Qr w2.heap.size w2 d:=by rw[S];exact ak _ _
 have a6:=zh (show d.heap[w2.heap.size]?=some (.cells #[.int .i64 3,.int .i64 0,.int .i64 0] 97) by rw[S];exact ag rfl);have b9:=zh (ab e9 N);have f2:=ai B2 N;have TW:=zh (f0.below N);have a7:=a5.below N;rw[<-S];clear S N c0 h l m n c f1;obtain⟨c0,h,l,m,n,c⟩:=di a7.blk;obtain⟨c1,c2,c3⟩:=aW a6;have a8:=aa a7.blk;have a9:=aa a6;obtain⟨k1,k2,k3,k4,c4⟩:=TW.out;have T:=zh c4;clear c4;obtain⟨f3,f4,f5,f6,f7⟩:=eB T.blk;have f8:=aa T.blk;have f9:=zh (show aQ τ.r.now by have:=C.now;unfold aQ;omega);go_wp2_with fail;refine zJ d 20 (zL [?_,?_,?_,?_,?_,?_,?_,?_,?_,?_,?_,?_,?_,?_,?_]++(Iy d.heap.size (dJ.empty (σ.P.reach τ.r)))::(Iy d.heap.size (dJ.empty (σ.P.reach τ.r)))::(FB d.heap.size (dJ.empty (σ.P.reach τ.r)))::zL [?_]++(FB d.heap.size (dJ.empty (σ.P.reach τ.r))):: []) zq ?_;rotate_right
 iterate 15
  refine zV ?_
 refine aT zk rfl rfl ?_ λk5=>?_
 ·intro A a f U q;have V:=a.2;go_simp;refine(kw (r:=σ.P.reach τ.r) (T.below a.1).tiers.1 (T.below a.1).floors.1 C.fit.1 C.now C.fl).mono ?_;rintro e w2 ⟨a3,rfl,b0,g0⟩;exact q.out _ _ _ zg ⟨_,_,_,rfl,a.1.size,b0⟩ g0
 simp only[zS];refine aT zk rfl rfl ?_ λc5=>?_
 ·intro A a f U q;have V:=a.2;go_simp;exact q.out _ _ _ zg (f.out 15 zk) zr
 simp only[zS];refine aT zk rfl rfl ?_ λk6=>?_
 ·intro A a f U q;have V:=a.2;go_simp;obtain⟨a3,B2,E2,rfl,D,O⟩: ∃t x P,c5= .tuple #[.pointer (some ⟨t,0,none⟩),.int .i64 0]/\d.heap.size<=x/\dY A x P t (dJ.empty (σ.P.reach τ.r)):=f.out 16 zk;go_simp;exact q.out _ _ _ zg ⟨_,_,_,rfl,D,O⟩ zr
 simp only[zS];refine aw zk rfl rfl ?_ ?_
 ·intro A a f U q;have V:=a.2;go_simp;obtain⟨a3,B2,E2,rfl,D,O⟩: ∃t x P,c5= .tuple #[.pointer (some ⟨t,0,none⟩),.int .i64 0]/\d.heap.size<=x/\dY A x P t (dJ.empty (σ.P.reach τ.r)):=f.out 16 zk;go_simp;exact q.out _ _ zz zr
 refine aT zk rfl rfl ?_ λg1=>?_
 ·intro A a f U q;have V:=a.2;go_simp;exact q.out _ _ _ zg (f.out 17 zk) zr
 simp only[zS];refine zD λc6 a f=>?_
 obtain⟨F,W,X,g2,k7,g3,g4,g5,g6,c7⟩: ∃t x P,g1= .pointer (some ⟨t,0,none⟩)/\d.heap.size<=x/\dY c6 x P t (dJ.empty (σ.P.reach τ.r)):=f.out 19;subst g2;obtain⟨L,I⟩:=zx σ.P.l.length;have c8:=zh I;have g:σ.tabs.length=L:=H.len.trans I.symm;have Y:=zh g;have g7:=ai f2 a.1;have g8:=zh (ab a6 a.1);have g9:=zh (ab b9 a.1);have b1:=a7.below a.1;have h0:=zh (show hY c6 W X F ⟨σ.P.reach τ.r,cm (λi=>σ.tabs.getD i none) L 0⟩ g3 g4 g5 g6 by rw[lD,I];exact c7);have c9:0<σ.tabs.length:=by rw[g,I];have:=(aN Q.pol).2.1;omega
 obtain⟨_,k8,k9,l0,l1,rfl,-⟩:=b1.tabs.elem c9;have l2:=aa b9;have l3:w2.heap.size<d.heap.size:=a9;rw[<-I] at e3;clear f a c7 I g c9 c0 h l m n c f3 f4 f5 f6 f7 c1 c2 c3 f8 a8 a9;obtain⟨c0,h,l,m,n,c⟩:=di b1.blk;have a8:=aa b1.blk;rw[Y] at c;go_wp2_with fail;go_loopw [115] (λi wr=> ∃k:Nat,k<=L/\i= .int .i64 k/\Qs (dY wr W X F ⟨σ.P.reach τ.r,cm (λi=>σ.tabs.getD i none) L k⟩)/\Qs (Qr w.heap.size w wr)/\Qs (wr.heap[w.heap.size]?=some (.cells #[.int .i64 0,.int .i64 0,.int .i64 0] 97))/\Qs (wr.heap[w2.heap.size]?=some (.cells #[.int .i64 3,.int .i64 0,.int .i64 0] 97))) (λi _=>L-(intOf i).toNat)
 case atStart=>exact⟨0,Nx _,rfl,zh ⟨_,_,_,_,h0⟩,g7,g9,g8⟩
 case round=>
  obtain⟨k,l4,rfl,h1,b2,d0,d1⟩:=hrel;obtain⟨h2,h3,h4,h5,d2⟩:=h1.out;have b3:=zh d2;have J:=H.below b2;clear c0 h l m n c a8 d2;obtain⟨c0,h,l,m,n,c⟩:=di J.blk;have h6:=aa J.blk;rw[Y] at c;by_cases g:k<L
  ·have h7:k<σ.tabs.length:=by rw[Y];exact g
   have b4:k<σ.P.l.length:=by rw[<-c8];exact g
   obtain⟨h8,p,h9,i0,d3⟩:=J.tabs.elem_at h7;have i1:=zh d3;clear d3 h9;go_wp2_with fail;refine(ft i1).mono ?_;rintro e l5 ⟨u,rfl,b0,Z⟩;have i2:=(aB.own b0).1;have i3:=b3.below Z;have d4:=ai b2 Z;have i4:=zh (ab d0 Z);have i5:=zh (ab d1 Z);clear c0 h l m n c i0 h8;go_wp2_with fail;have a0:(cm (λi=>σ.tabs.getD i none) L k).length=L:=gQ _ _ _
   have d5: ∀j,j<(cm (λi=>σ.tabs.getD i none) L k).length->aQ ((dJ.mk (σ.P.reach τ.r) (cm (λi=>σ.tabs.getD i none) L k)).es.getD j 0):=λj a1=>by
    rw[a0,c8] at a1;have:=C.pe j a1;rw[show(dJ.mk (σ.P.reach τ.r) (cm (λi=>σ.tabs.getD i none) L k)).es.getD j 0=(σ.P.l.getD j ah.zero).every by simp[dJ.es,PV.reach,a1]];unfold aQ;omega
   have d6: ∀r∈σ.tabs.getD k none,r.ok/\cI ((dJ.mk (σ.P.reach τ.r) (cm (λi=>σ.tabs.getD i none) L k)).es.getD k 0) r=true/\(σ.P.reach τ.r).from k<=r.start:=by
    intro y d7;have i6:(σ.P.built τ).tabs.getD k none=σ.P.tab τ k:=by unfold PV.built cm;simp[b4]
    rw[e2,i6] at d7;rw[show(dJ.mk (σ.P.reach τ.r) (cm (λi=>σ.tabs.getD i none) L k)).es.getD k 0=(σ.P.l.getD k ah.zero).every by simp[dJ.es,PV.reach,b4]];exact C.tab_ok (λk=>e1.tabs.okD k) b4 y d7
   refine(lB i3 k (by show k<(cm _ _ _).length;rw[a0];exact g) (by show(cm _ _ _).length<=100;rw[a0];omega) f9 d5 (vX _ g) _ _ i2 d6).mono ?_;rintro e w7 ⟨rfl,i7,b5⟩;have i8:=zh (show dY w7 W X F ⟨σ.P.reach τ.r,cm (λi=>σ.tabs.getD i none) L (k+1)⟩ by rw[lE _ g];exact i7);have i9:=d4.trans (b5.below (B:=w.heap.size) (by intro j a1;omega) d4.size);have j0:=b5.keep i4 (by show¬(_/\_);omega);have j1:=b5.keep i5 (by show¬(_/\_);omega);clear a0 d5 d6;go_wp2;go_roundw
   case rel=>exact⟨k+1,g,by go_num,i8,i9,j0,j1⟩
   case measure=>simp[intOf];omega
  ·obtain rfl:k=L:=zo
   have j2:=H.len;have l6:=b3.iv.2;have d8:=zh d1.out;have K:=zh d0.out;have j3:=zh (show Ch (λk=>B<=k/\k<E) w wr from Ch.fresh b2)
   have j4:=zh (show hY wr W X F (σ.P.built τ) h2 h3 h4 h5 by
    have:=b3.out;rw[<-Y,qP,e2] at this;exact this)
   obtain⟨c1,c2,c3⟩:=aW d8;clear j2 h6;have l7:=ad (o:=4) J.blk;have l8:=aa J.blk;have l9:=aa K;have a9:=aa d8
   have j5:0<=σ.done/\σ.done<=100:=by
    have D:=Q.done;have O:=σ.P.fills_bd (cE Q.pol);unfold PV.steps at D;omega
   have m0:wrap64 (σ.done+1)=σ.done+1:=by unfold wrap64;omega
   clear j5;have j6:w.heap.size≠s:=by have:=H.iv;have:=e4;omega
   have m1: ∀v o,(World.setCell wr ⟨s,4,none⟩ v).frozen? ⟨w.heap.size,o,none⟩=false:=λv o=>(Qf _ _ _ _).trans (ad K)
   have a2:Qs (∀v,(World.setCell wr ⟨s,4,none⟩ v).heap[w.heap.size]?=wr.heap[w.heap.size]?):=λv=>af _ j6
   have z0: ∀v,(World.setCell wr ⟨s,4,none⟩ v).cell? ⟨w.heap.size,0,none⟩=_:=λv=>(aW ((a2 v).trans K)).1
   have z1: ∀v,(World.setCell wr ⟨s,4,none⟩ v).cell? ⟨w.heap.size,1,none⟩=_:=λv=>(aW ((a2 v).trans K)).2.1
   have z2: ∀v,(World.setCell wr ⟨s,4,none⟩ v).cell? ⟨w.heap.size,2,none⟩=_:=λv=>(aW ((a2 v).trans K)).2.2
   go_wp2_with fail;obtain⟨b6,M⟩:=zx (World.setCell wr ⟨s,4,none⟩ (.int .i64 (σ.done+1)));have d9:=J.setDone (σ.done+1);rw[<-M] at d9;have e0:=(a2 (.int .i64 (σ.done+1))).trans K;rw[<-M] at e0;have j7:=H.iv;have j8:Ch (λk=>B<=k/\k<E) w b6:=by rw[M];exact aP j3 (.inl j7.1)
   rw[<-M];refine NG (v:= .tuple #[.agg #[.int .i64 3,.int .i64 0,.int .i64 0],.pointer (some ⟨F,0,none⟩),.int .i64 0]) (dI results134 _ _ _ _ _ _ _ _ _ rfl rfl rfl (bW _ _ _ e0) underlying97 rfl zk) rfl ⟨F,rfl,?_,?_,aP (aP (aP j8 (.inr zl)) (.inr zl)) (.inr zl)⟩
   ·have j9:b6.heap.size=wr.heap.size:=by rw[M];simp
    have m2:s<w.heap.size:=aa H.blk;refine⟨_,_,_,_,(j4.step (w':=((b6.setCell ⟨w.heap.size,0,none⟩ (.int .i64 3)).setCell ⟨w.heap.size,1,none⟩ (.int .i64 0)).setCell ⟨w.heap.size,2,none⟩ (.int .i64 0)) (by simp[j9]) λj D O=>?_).mono zo zu zl⟩;rw[aR _ _ _ zo,M];exact af _ (by show j≠s;omega)
   ·exact⟨_,_,_,_,d9.step zm λj D O=>aR _ _ _ zo⟩
end
structure au where
 room:Int
 τ:dJ
 sh:Option el
structure SB where
 s:Nat
 bt:Nat
 et:Nat
 t:Nat
 bs:Nat
 es:Nat
 c:Nat
def SB.own(b:SB)(k:Nat):Prop:=k=b.s\/(b.bt<=k/\k<b.et)\/(b.bs<=k/\k<b.es)
def wb:Option el->Int
 |none=>0
 |some σ=>σ.bound
def au.chV(S:au)(b:SB):Qn:=match S.sh with|none=> .pointer none|some _=> .pointer (some ⟨b.c,0,none⟩)
def Mm(w:Qm)(b:SB)(o:Option el):Prop:= ∀σ∈o,nH w b.bs b.es b.c σ
structure bJ(w:Qm)(b:SB)(S:au):Prop where
 blk:w.heap[b.s]?=some (.cells #[.int .i64 S.room,.pointer (some ⟨b.t,0,none⟩),S.chV b] 103)
 tr:dY w b.bt b.et b.t S.τ
 sh:Mm w b S.sh
 no:S.sh=none->b.es=0
 apart: ∀k,(b.bt<=k/\k<b.et->k≠b.s/\ ¬(b.bs<=k/\k<b.es))/\(b.bs<=k/\k<b.es->k≠b.s)
structure au.ok(S:au):Prop where
 pol:cD S.τ.r.name S.τ.r.l=true
 fl:S.τ.r.fl.length<=5
 room:0<=S.room/\S.room<=4096
 sh: ∀σ∈S.sh,σ.ok
section
variable{w w':Qm}{b:SB}{S:au}{B E s t:Nat}
def Mm.step{o:Option el}(c:Mm w b o)(h:w.heap.size<=w'.heap.size)(i: ∀k,b.bs<=k->k<b.es->w'.heap[k]?=w.heap[k]?):Mm w' b o:=by
 intro σ g;obtain⟨a,d,e,f,c⟩:=c σ g;exact⟨a,d,e,f,c.step h i⟩
def bJ.step(a:bJ w b S)(f:w.heap.size<=w'.heap.size)(e: ∀k,b.own k->w'.heap[k]?=w.heap[k]?):bJ w' b S:=
 ⟨(e _ (.inl rfl)).trans a.blk,a.tr.step f λk c d=>e k (.inr (.inl ⟨c,d⟩)),a.sh.step f λk c d=>e k (.inr (.inr ⟨c,d⟩)),a.no,a.apart⟩
def bJ.lt(a:bJ w b S){k:Nat}(c:b.own k):k<w.heap.size:=by
 rcases c with rfl|c|c
 ·exact aa a.blk
 ·obtain⟨_,_,_,_,d⟩:=a.tr
  have:=d.iv.2;omega
 ·cases hs:S.sh with
  |none=>have:=a.no hs;omega
  |some σ=>
   obtain⟨_,_,_,_,hq⟩:=a.sh σ hs;have:=hq.iv.2;omega
def bJ.below(a:bJ w b S)(c:Qr w.heap.size w w'):bJ w' b S:=a.step c.size λk d=>c.block k (a.lt d)
def bJ.ch{F:Nat->Prop}(c:bJ w b S)(d:Ch F w w')(e: ∀k,b.own k-> ¬F k):bJ w' b S:=c.step d.size λk a=>d.block k (c.lt a) (e k a)
def au.ok.len(c:S.ok)(d:bJ w b S):0<S.τ.tabs.length/\S.τ.tabs.length<=5:=by
 obtain⟨_,_,_,_,a⟩:=d.tr;have:=aN c.pol;rw[a.len];omega
def au.need(S:au):Int:=cz S.τ.tabs S.τ.tabs.length+wb S.sh
def eY(a:bJ w b S):Qo zP 65 #[b.s] w (aK w (.bool false)):=by
 obtain⟨c0,c,d⟩:=aW a.blk;have e:=aa a.blk;clear a;go_enter func65,ntmps65;go_wp2;go_ret;exact⟨rfl,ND _ _⟩
def kz(a:bJ w b S):Qo zP 40 #[b.s] w (aK w (.int .i64 S.room)):=by
 obtain⟨c0,c,d⟩:=aW a.blk;clear a;go_enter func40,ntmps40;go_wp2;go_ret;exact⟨rfl,ND _ _⟩
def ur(c:bJ w b S):Qo zP 29 #[b.s] w (aK w (.bool S.sh.isSome)):=by
 obtain⟨c0,d,a⟩:=aW c.blk;clear c;unfold au.chV at a;go_enter func29,ntmps29;cases hs:S.sh with
 |none=>
  rw[hs] at a;go_wp2;go_ret;exact⟨rfl,ND _ _⟩
 |some σ=>
  rw[hs] at a;go_wp2;go_ret;exact⟨rfl,ND _ _⟩
def qS(x y:Int)(w:Qm)(a:0<=x/\x<=1000000)(c:0<=y/\y<=1000000):Qo zP 83 #[x,y] w (aK w (.int .i64 (x+y))):=by
 go_enter func83,ntmps83;go_wp2;go_ret;exact⟨rfl,ND _ _⟩
def qT(x:Int)(w:Qm)(a:0<=x/\x<=4096):Qo zP 111 #[x] w (aK w (.bool true)):=by
 go_enter func111,ntmps111;go_wp2;go_ret;exact⟨rfl,ND _ _⟩
def IB(a:bJ w b S):Qo zP 85 #[S.chV b] w (aK w (.int .i64 (wb S.sh))):=by
 unfold au.chV;cases hs:S.sh with
 |none=>exact qQ w
 |some σ=>
  obtain⟨_,_,_,_,hq⟩:=a.sh σ hs;exact lF hq
end
section
variable{w w':Qm}{b:SB}{S:au}{B E s t:Nat}
def AX(w:Qm)(S:au)(e:Qq)(w':Qm):Prop:= ∃b,e= .returned (.pointer (some ⟨b.s,0,none⟩))/\Qs (bJ w' b S)/\Qs (∀k,b.own k->w.heap.size<=k)/\Qs (Qr w.heap.size w w')
def sT(H:Qs (bJ w b S))(i:S.ok):Qo zP 39 #[b.s] w (aK w (.int .i64 S.need)):=by
 obtain⟨c0,p,q⟩:=aW H.blk;have r:=aa H.blk;have j:=i.len H;obtain⟨y,A,B,ps,k⟩:=H.tr;have s:=zh k;have t:=fw S.τ.tabs S.τ.tabs.length;have l:=zh j
 have u:=zh (show 0<=wb S.sh/\wb S.sh<=1000000 by
  cases hs:S.sh with
  |none=>simp[wb]
  |some σ=>exact(i.sh σ hs).bound)
 have v:=zh (zo:0<=cz S.τ.tabs S.τ.tabs.length/\cz S.τ.tabs S.τ.tabs.length<=1000000);clear j k i t;go_enter func39,ntmps39;go_wp2_with fail;refine zb (eY H) λe f=>?_
 have g:=H.below f;have x:=s.below f;obtain⟨c0,p,q⟩:=aW g.blk;have r:=aa g.blk;go_wp2_with fail;refine zJ e 13 (zL [?_,?_,?_,?_,?_,?_,?_,?_,?_,?_,?_,?_,?_]) zq ?_;rotate_right
 iterate 5
  refine zV ?_
 refine aw zk rfl rfl ?_ ?_
 ·intro e a h m c;have n:=a.2;go_simp;refine zb (iL (x.below a.1) l.1 (by have:=l.2;omega)) λo d=>?_;exact c.out _ _ zz d
 iterate 4
  refine zV ?_
 refine aw zk rfl rfl ?_ ?_
 ·intro e a h m c;have n:=a.2;go_simp;refine zb (IB (g.below a.1)) λo d=>?_;exact c.out _ _ zz d
 refine aw zk rfl rfl ?_ ?_
 ·intro e a h m c;have n:=a.2;go_simp;refine zb (qS _ _ _ v u) λo d=>?_;exact c.out _ _ zz d
 refine zV ?_;refine zD λC a h=>?_
 go_wp2;go_ret;exact⟨rfl,ai f a.1⟩
def hJ(a:bJ w b S)(c:S.ok):Qo zP 9 #[b.s] w (JB w S.τ):=by
 obtain⟨c0,l,m⟩:=aW a.blk;have n:=aa a.blk;have f:=zh (c.len a);obtain⟨o,p,q,ps,d⟩:=a.tr;have g:=zh d;have h:S.τ.r.fl.length<=100:=by have:=c.fl;omega
 clear a d c;go_enter func9,ntmps9;go_wp2_with fail;refine(fU g (by have:=f.2;omega) h).mono ?_;rintro e r ⟨i,rfl,j,k⟩;go_wp2;go_ret;exact⟨i,rfl,j,k⟩
def oG(a:bJ w b S)(d:S.sh=none):Qo zP 26 #[b.s] w (aK w (.pointer none)):=by
 obtain⟨c0,f,c⟩:=aW a.blk;have g:=aa a.blk;unfold au.chV at c;rw[d] at c;clear a d;go_enter func26,ntmps26;go_wp2_with fail;refine zb (nI _) λh e=>?_
 go_wp2;go_ret;exact⟨rfl,e⟩
def kc{σ:el}(c:bJ w b S)(i:S.ok)(g:S.sh=some σ):Qo zP 26 #[b.s] w (FD w σ):=by
 obtain⟨c0,o,h⟩:=aW c.blk;have p:=aa c.blk;obtain⟨a,d,e,f,hq⟩:=c.sh σ g;have j:=zh hq;have k:=i.sh σ g;unfold au.chV at h;rw[g] at h;clear c g hq i;go_enter func26,ntmps26;go_wp2_with fail;refine(sR j k).mono ?_;rintro e q ⟨l,rfl,m,n⟩;go_wp2;go_ret;exact⟨l,rfl,m,n⟩
end
section
variable{w w' w1 u:Qm}{b:SB}{S:au}{B E s t:Nat}
def qU{bt et t bs es c:Nat}{e:Qm}{o:Obj}(h:Qr w.heap.size w u)(i:dY u bt et t S.τ)(D:w.heap.size<=bt)(f: ∀σ∈S.sh,nH u bs es c σ/\w.heap.size<=bs/\(et<=bs\/es<=bt))(g:S.sh=none->bs=0/\es=0)
 (p:o= .cells #[(S.room:Int),((SB.mk u.heap.size bt et t bs es c).t:Nat),S.chV (SB.mk u.heap.size bt et t bs es c)] 103) (q:e=u.alloc o):
 bJ e ⟨u.heap.size,bt,et,t,bs,es,c⟩ S/\(∀k,(SB.mk u.heap.size bt et t bs es c).own k->w.heap.size<=k)/\Qr w.heap.size w e:=by
 subst q p;obtain⟨r,s,v,x,j⟩:=id i;have y:=j.iv;have A:=h.size;refine⟨⟨ag rfl,i.below ze,λσ l=>(f σ l).1.below ze,λa=>(g a).2,λk=>?_⟩,λk d=>?_,ai h ze⟩
 ·cases hs:S.sh with
  |none=>
   obtain⟨m,n⟩:=g hs;exact⟨λa=>⟨by show k≠u.heap.size;have:k<et:=a.2;omega,by show¬(_/\k<es);omega⟩,λa=>by have:k<es:=a.2;omega⟩
  |some σ=>
   obtain⟨⟨_,_,_,_,hq⟩,m,n⟩:=f σ hs;have B:=hq.iv;exact⟨λa=>⟨by show k≠u.heap.size;have:k<et:=a.2;omega,by show¬(bs<=k/\k<es);have C:bt<=k/\k<et:=a;omega⟩,λa=>by show k≠u.heap.size;have:k<es:=a.2;omega⟩
 ·rcases d with d|d|d
  ·have d:k=u.heap.size:=d;omega
  ·have d:bt<=k/\k<et:=d;omega
  ·have d:bs<=k/\k<es:=d
   cases hs:S.sh with
   |none=>have:=g hs;omega
   |some σ=>have:=f σ hs;omega
def Nd(B:Nat)(r:Int)(τ:dJ):br kM:= .rel (λv w=> ∃t a c,v= .agg #[.int .i64 r,.pointer (some ⟨t,0,none⟩)]/\B<=a/\dY w a c t τ) (λ_ _ _ d e=>by obtain⟨t,a,c,f,g,h⟩:=d;exact⟨t,a,c,f,g,h.below e⟩)
def My(B:Nat)(r:Int)(τ:dJ):br kM:= .rel (λv w=> ∃t a c,v= .agg #[.int .i64 r,.pointer (some ⟨t,0,none⟩),.pointer none]/\B<=a/\dY w a c t τ) (λ_ _ _ d e=>by obtain⟨t,a,c,f,g,h⟩:=d;exact⟨t,a,c,f,g,h.below e⟩)
def CL(i:bJ w b S)(p:S.ok)(q:Qs (S.sh=none)):Qo zP 30 #[.pointer (some ⟨b.s,0,none⟩)] w (AX w S):=by
 obtain⟨c0,H,r⟩:=aW i.blk;have I:=aa i.blk;have x:=zh (p.len i);obtain⟨J,K,L,ps,s⟩:=i.tr;have y:=zh s;have A:=zh (show S.τ.r.fl.length<=100 by have:=p.fl;omega);unfold au.chV at r;rw[q] at r;clear i s p;go_enter func30,ntmps30;go_wp2_with fail;refine zJ w 18 (zL [?_,?_,?_,?_,?_,?_,?_,?_,?_,?_]++(FB w.heap.size S.τ)::(Nd w.heap.size S.room S.τ)::zL [?_,?_,?_,?_,?_]++(My w.heap.size S.room S.τ):: []) zq ?_;rotate_right
 iterate 10
  refine zV ?_
 refine aT zk rfl rfl ?_ λB=>?_
 ·intro w1 a f m g;have n:=a.2;go_simp;refine(fU (y.below a.1) (by have:=x.2;omega) A).mono ?_;rintro e C ⟨l,rfl,h,o⟩;exact g.out _ _ _ zg ⟨l,_,_,rfl,a.1.size,h⟩ o
 simp only[zS];refine aT zk rfl rfl ?_ λD=>?_
 ·intro w1 a f m g;have n:=a.2;go_simp;obtain⟨l,B2,E2,rfl,j,h⟩: ∃t d k,B= .pointer (some ⟨t,0,none⟩)/\w.heap.size<=d/\dY w1 d k t S.τ:=f.out 10 zk;go_simp;exact g.out _ _ _ zg ⟨_,_,_,rfl,j,h⟩ zr
 simp only[zS]
 iterate 4
  refine zV ?_
 refine aw zk rfl rfl ?_ ?_
 ·intro w1 a f m g;have n:=a.2;go_simp;refine zb (nI _) λC o=>?_;exact g.out _ _ zz o
 refine aT zk rfl rfl ?_ λE=>?_
 ·intro w1 a f m g;have n:=a.2;go_simp;obtain⟨l,B2,E2,rfl,j,h⟩: ∃t d k,D= .agg #[.int .i64 S.room,.pointer (some ⟨t,0,none⟩)]/\w.heap.size<=d/\dY w1 d k t S.τ:=f.out 11 zk;go_simp;exact g.out _ _ _ zg ⟨_,_,_,rfl,j,h⟩ zr
 simp only[zS];refine kn zk rfl rfl (λv a f _=>?_);obtain⟨l,B2,E2,F,j,h⟩: ∃t d k,E= .agg #[.int .i64 S.room,.pointer (some ⟨t,0,none⟩),.pointer none]/\w.heap.size<=d/\dY v d k t S.τ:=f.out 17;subst F;go_wp2;go_ret;have:=qU (w:=w) (u:=v) (S:=S) (bs:=0) (es:=0) (c:=0) a.1 h j (by rw[q];intro σ i;cases i) (λ_=>⟨rfl,rfl⟩) (by unfold au.chV;rw[q]) rfl;exact⟨_,rfl,this⟩
def yA{σ:el}(g:bJ w b S)(l:S.ok)(j:Qs (S.sh=some σ)):Qo zP 30 #[b.s] w (AX w S):=by
 obtain⟨c0,J,m⟩:=aW g.blk;have K:=aa g.blk;have s:=zh (l.len g);obtain⟨L,M,N,ps,n⟩:=g.tr;have t:=zh n;have v:=zh (show S.τ.r.fl.length<=100 by have:=l.fl;omega);obtain⟨a,d,e,f,hq⟩:=g.sh σ j;have x:=zh hq;have y:=l.sh σ j;unfold au.chV at m;rw[j] at m;clear g n l hq;go_enter func30,ntmps30;go_wp2_with fail;refine aC (S:=(iz w)) 20 zk ?_ (λc=>?_)
 ·(first|exact ax _|exact aj _ _ c h|exact aj _ _ c ze)
 refine zT 0 ?_;refine zT 1 ?_;refine zT 2 ?_;refine zT 3 ?_;refine zT 4 ?_;refine zT 5 ?_;refine zT 6 ?_;refine zT 7 ?_;refine zT 8 ?_;refine zT 9 ?_;refine zT 12 ?_;refine zT 13 ?_;refine zT 14 ?_;refine zT 15 ?_;refine zO 10 λo k=>?_
 go_simp;refine(fU (t.below c.1) (by have:=s.2;omega) v).mono ?_;rintro e A ⟨O,rfl,p,h⟩;have B:=ai c.1 h;have C:=zh c.1.size;(try have D:=r.below h);refine zE k (by first|exact ax _|exact aj _ _ c h|exact aj _ _ c ze) λc=>?_
 refine zT 11 ?_;refine zO 16 λo k=>?_
 go_simp;refine(sR (x.below c.1) y).mono ?_;rintro e E ⟨P,rfl,r,h⟩;have F:=ai c.1 h;have H:=zh c.1.size;(try have I:=p.below h);refine zE k (by first|exact ax _|exact aj _ _ c h|exact aj _ _ c ze) λc=>?_
 refine zT 17 ?_;refine zO 18 λo k=>?_
 go_simp
 skip
 refine zE k (by first|exact ax _|exact aj _ _ c h|exact aj _ _ c ze) λc=>?_
 refine zT 19 ?_;refine zH ?_;go_wp2;go_ret
 first
  |(have q:=qU (w:=w) (u:=E) (S:=S) F I zl (λσ' i=>by rw[j] at i;injection i with i;subst i;exact⟨r,H,.inl zl⟩) (λg=>by rw[j] at g;cases g) (by unfold au.chV;rw[j]) rfl
    exact⟨_,rfl,q⟩)
  |(have q:=qU (w:=w) (u:=A) (S:=S) B p C (λσ' i=>by rw[j] at i;injection i with i;subst i;exact⟨D,Nt _,.inr zl⟩) (λg=>by rw[j] at g;cases g) (by unfold au.chV;rw[j]) rfl
    exact⟨_,rfl,q⟩)
end
end Go.Proofs.YtdflhgceeloijaaGreatDoor
