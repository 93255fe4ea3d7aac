import Derived.Test.YtdflhgceeloijaaGreatDoorZ1
import Derived.Test.YtdflhgceeloijaaGreatDoorZ2
import Derived.Test.YtdflhgceeloijaaGreatDoorZ3
import Derived.Test.YtdflhgceeloijaaGreatDoorZ6
set_option linter.all false
set_option maxRecDepth 100000
set_option maxHeartbeats 16000000
namespace Go.Proofs.YtdflhgceeloijaaGreatDoor
open Go Go.RowKit Tryz
open Tryz renaming prog→zP
open Go renaming World→Qm,Value→Qn,Calls→Qo,TypeId→Qp,Ending→Qq
open Go.RowKit renaming Below→Qr,Hid→Qs
def oJ(S:au):bI:=match S.sh with
 |none=>⟨1,1,S.τ.r.now,S.τ.r.name,S.τ.r.l,S.τ.r.all,ByteArray.empty,[],[],0,0,[]⟩
 |some σ=>⟨1,1,S.τ.r.now,S.τ.r.name,S.τ.r.l,S.τ.r.all,σ.P.name,σ.P.l,σ.P.src,σ.bound,σ.done,[]⟩
def Mz(w:Qm)(v:Qn)(c:bI):Prop:= ∃pv a d sv,v= .agg #[.int .u64 c.gen,.int .u64 c.id,(c.now:Int),c.pn,pv,a,c.tn,d,sv,(c.bound:Int),(c.done:Int),z0]/\re w c pv a d sv (.slice none 0 0)
def Ks(w:Qm)(c:bI)(e:Qq)(w':Qm):Prop:= ∃v,e= .returned (.tuple #[v,()])/\Qs (Mz w' v c)/\Qs (Qr w.heap.size w w')
def hM(w:Qm)(B:Nat)(v:Qn)(l:List Int):Prop:=aE w v l/\w.ownsRow B 3 1 v l.length (l.map (Value.int .i64))
def hM.below{w w':Qm}{B:Nat}{v:Qn}{l:List Int}(a:hM w B v l)(c:Qr w.heap.size w w'):hM w' B v l:=⟨a.1.below c,aS a.2 c⟩
def JE(B:Nat)(l:List Int):br kM:= .rel (λv w=>hM w B v l) (λ_ _ _ a c=>a.below c)
def MA(B:Nat)(now:Int)(n:ByteArray)(l:List ah)(j:List Int):br kM:= .rel (λv w=> ∃a c,v= .agg #[.int .u64 1,.int .u64 1,now,n,a,c,.string ⟨#[]⟩,z0,z0,(),(),z0]/\aH w a l/\hM w B c j) (λ_ _ _ e d=>by obtain⟨t,f,g,h,i⟩:=e;exact⟨t,f,g,h.below d,i.below d⟩)
def hM.ne{w:Qm}{B q:Nat}{v:Qn}{l:List Int}{d:Array Qn}(e:hM w B v l)(hq:w.heap[q]?=some (.cells d 382)): ∀b,aD v b-> ¬b=q:=by
 rintro b c rfl;obtain⟨-,-,f,a⟩:=ar e.2 (cJ c);rw[hq] at a;injection a with a
 injection a with _ a
 exact absurd a zd
def mG{w:Qm}{q:Nat}{v:Qn}{l:List ah}(r:aH w v l)(hq:w.heap[q]?=some (.cells #[.int .u64 0,.int .u64 0,(),.string ⟨#[]⟩,z0,z0,.string ⟨#[]⟩,z0,z0,(),(),z0] 382)): ∀b,aD v b-> ¬b=q:=by
 rintro b f rfl;obtain⟨a,c,rfl,-,-,i⟩:=r;cases a with
 |none=>exact f.elim
 |some a=>
  obtain⟨j,k⟩:=f;have h:l≠ []:=λe=>j (by rw[e];rfl)
  obtain⟨g,o,e,-,m⟩:=i h;have n:=Oa e;subst n;have p:g=b:=k;subst p;obtain⟨c0,d,-⟩:=m 0 (Ps.2 h);rw[NA w g _ _ _ _ hq] at c0 d;simp only[Ox,NR] at c0 d;rcases o with _|_|_|_|_|_|_|_|_|_|_|_|o<;>simp at c0 d
def aH.ch_{F:Nat->Prop}{w w':Qm}{v:Qn}{l:List ah}(x:aH w v l)(f:Ch F w w')(y: ∀k,aD v k-> ¬F k):aH w' v l:=by
 obtain⟨a,c,rfl,m,n,p⟩:=x;refine⟨a,c,rfl,m,n,λi=>?_⟩;obtain⟨g,o,rfl,d,q⟩:=p i;have h:=y g ⟨λe=>i (NI e),rfl⟩;refine⟨g,o,rfl,No d f.size,λj r=>?_⟩;obtain⟨c0,s,t,u⟩:=q j r;exact⟨(bT f d h).trans c0,(bT f d h).trans s,(bT f d h).trans t,(bT f d h).trans u⟩
def Bb{B b:Nat}{v:Qn}(i:iX B v)(d:aD v b):B<=b:=by
 cases v with
 |slice a n c=>
  cases a with
  |none=>exact d.elim
  |some a=>
   obtain⟨f,g,h⟩:=a;obtain⟨-,e⟩:=d;have e:f=b:=e;rw[<-e];exact i f g h n c rfl
 |_=>exact d.elim
def iT{w:Qm}{b:Nat}{T:Qp}{n o p q r s t u v x y A:Qn}(a c d e f g h i j k l m:Qn)(B:w.heap[b]?=some (.cells #[n,o,p,q,r,s,t,u,v,x,y,A] T)):
 ((((((((((((w.setCell ⟨b,0,none⟩ a).setCell ⟨b,1,none⟩ c).setCell ⟨b,2,none⟩ d).setCell ⟨b,3,none⟩ e).setCell ⟨b,4,none⟩ f).setCell ⟨b,5,none⟩ g).setCell ⟨b,6,none⟩ h).setCell ⟨b,7,none⟩ i).setCell ⟨b,8,none⟩ j).setCell ⟨b,9,none⟩ k).setCell ⟨b,10,none⟩ l).setCell ⟨b,11,none⟩ m).heap[b]?=some (.cells #[a,c,d,e,f,g,h,i,j,k,l,m] T):=by
 rw[al (al (al (al (al (al (al (al (al (al (al (al B a) c) d) e) f) g) h) i) j) k) l) m];simp only[NN,Om,Oe]
section
variable{R:Qm->Qm->Prop}{P:Program}{ops:Array Oper}{Q:Exit->Act->Qm->Prop}{S:Qm->Prop}{specs:List (br R)}
def CW{n:Nat}{c d e f g h i:Oper}{k:List Qn}{a:Act}(o:decide (ops.size=n+1+1+1+1+1+1+1)=true)(p:cM ops.toList n=some c)(q:cM ops.toList (n+1)=some d)(r:cM ops.toList (n+1+1)=some e)(s:cM ops.toList (n+1+1+1)=some f)(t:cM ops.toList (n+1+1+1+1)=some g)(u:cM ops.toList (n+1+1+1+1+1)=some h)(v:cM ops.toList (n+1+1+1+1+1+1)=some i)(x: ∀w,S w->Shut (∀j,gf specs k w j)->wpList P ops Q [c,d,e,f,g,h,i] a w):dc P ops Q S specs n n k a:=by
 refine tI λw l m=>?_
 rw[em p,em q,em r,em s,em t,em u,em v,lR (Ns o)];exact x w l m
end
section
variable{w w' w1 u:Qm}{b:SB}{S:au}
def CX(H:Qs (bJ w b S))(a3:Qs S.ok)(j4:Qs (aQ S.τ.r.now)):Qo zP 300 #[.pointer (some ⟨b.s,0,none⟩)] w (Ks w (oJ S)):=by
 have b5:=zh (aN a3.pol).1;go_enter func300,ntmps300;go_wp2_with fail;refine(hJ (H.below ze) a3).mono ?_;rintro e j ⟨t,rfl,e0,b6⟩;have F:=zh (ab (Nu w _) b6);have a4:=ai (ak w _) b6;have e1:=H.below a4;obtain⟨g,a5,j5,ps,hq⟩:=e0;have b7:=zh hq;obtain⟨c0,e2,e3,e4,e5⟩:=eB hq.blk;have e6:=aa hq.blk;clear hq;go_wp2_with fail;refine zJ j 18 (zL [?_,?_,?_,?_,?_,?_,?_,?_,?_,?_]++(Ko j.heap.size S.τ.r.name S.τ.r.l)::zL [?_,?_,?_,?_]++(JE j.heap.size S.τ.r.all)::(MA j.heap.size S.τ.r.now S.τ.r.name S.τ.r.l S.τ.r.all)::(Lp j.heap.size (.cells #[.int .u64 0,.int .u64 0,.int .i64 0,.string ⟨#[]⟩,.slice none 0 0,.slice none 0 0,.string ⟨#[]⟩,.slice none 0 0,.slice none 0 0,.int .i64 0,.int .i64 0,.slice none 0 0] 382)):: []) zq ?_;rotate_right
 iterate 10
  refine zV ?_
 refine aT zk rfl rfl ?_ λe7=>?_
 ·intro w1 a d y f;have A:=a.2;go_simp;refine(jO _ S.τ.r.name S.τ.r.l _ ⟨_,rfl,b7.tiers.1.below a.1⟩ (by have:=b5.out;omega)).mono ?_;rintro e h ⟨u,rfl,⟨I,rfl,m,D⟩,i⟩;exact f.out _ _ _ zg ⟨I,rfl,m,D.mono a.1.size⟩ i
 simp only[zS]
 iterate 4
  refine zV ?_
 refine aT zk rfl rfl ?_ λe8=>?_
 ·intro w1 a d y f;have A:=a.2;go_simp;refine(AH _ S.τ.r _ (b7.reach.below a.1) j4 (by have:=b5.out;omega)).mono ?_;rintro e h ⟨u,rfl,b8,i⟩;exact f.out _ _ _ zg ⟨b8.2,by rw[show S.τ.r.all.length=S.τ.r.l.length from RV.allN_len _ _];exact cj b8.1 (Nat.le_succ_of_le a.1.size)⟩ i
 simp only[zS];refine aT zk rfl rfl ?_ λe9=>?_
 ·intro w1 a d y f;have A:=a.2;go_simp;obtain⟨I,rfl,m,D⟩: ∃g,e7= .agg #[.string S.τ.r.name,g]/\aH w1 g S.τ.r.l/\iX j.heap.size g:=d.out 10 zk;have b9:hM w1 j.heap.size e8 S.τ.r.all:=d.out 15 zk;obtain⟨j6,j7,rfl,-⟩:=id b9.1;obtain⟨j8,j9,rfl,-⟩:=id m;go_simp;exact f.out _ _ _ zg ⟨_,_,rfl,m,b9⟩ zr
 simp only[zS];refine aT zk rfl rfl ?_ λf0=>?_
 ·intro w1 a d y f;have A:=a.2;go_simp;exact f.out _ _ _ zg ⟨_,rfl,a.1.size,Nu _ _⟩ ze
 simp only[zS];refine zA λh a d=>?_
 obtain⟨I,k0,f1,a6,a7⟩: ∃g a5,e9= .agg #[.int .u64 1,.int .u64 1,.int .i64 S.τ.r.now,.string S.τ.r.name,g,a5,.string ⟨#[]⟩,.slice none 0 0,.slice none 0 0,.int .i64 0,.int .i64 0,.slice none 0 0]/\aH h g S.τ.r.l/\hM h j.heap.size a5 S.τ.r.all:=d.out 16;subst f1;obtain⟨q,rfl,k1,J⟩: ∃q,f0= .pointer (some ⟨q,0,none⟩)/\j.heap.size<=q/\h.heap[q]?=some (.cells #[.int .u64 0,.int .u64 0,.int .i64 0,.string ⟨#[]⟩,.slice none 0 0,.slice none 0 0,.string ⟨#[]⟩,.slice none 0 0,.slice none 0 0,.int .i64 0,.int .i64 0,.slice none 0 0] 382):=d.out 17;obtain⟨n,p,rfl,-⟩:=id a6;obtain⟨r,x,rfl,-⟩:=id a7.1;have K:=zh J;have f2:=aa J;have c1:=λo=>ad (o:=o) J
 obtain⟨z0,z1,z2,z3,z4,z5,z6,z7,z8,z9,z10,z11⟩:=bQ J;have V:=zh a6;have L:=zh a7;have B2:=ai a4 a.1;have c2:=zh (ab F a.1);have f3:=e1.below a.1;clear d a a6 a7 J c0 e2 e3 e4 e5 e6;go_wp2_with fail;obtain⟨c3,W⟩:=zx ((((((((((((h.setCell ⟨q,0,none⟩ (.int .u64 1)).setCell ⟨q,1,none⟩ (.int .u64 1)).setCell ⟨q,2,none⟩ (.int .i64 S.τ.r.now)).setCell ⟨q,3,none⟩ (.string S.τ.r.name)).setCell ⟨q,4,none⟩ (.slice n S.τ.r.l.length p)).setCell ⟨q,5,none⟩ (.slice r S.τ.r.all.length x)).setCell ⟨q,6,none⟩ (.string ⟨#[]⟩)).setCell ⟨q,7,none⟩ (.slice none 0 0)).setCell ⟨q,8,none⟩ (.slice none 0 0)).setCell ⟨q,9,none⟩ (.int .i64 0)).setCell ⟨q,10,none⟩ (.int .i64 0)).setCell ⟨q,11,none⟩ (.slice none 0 0));have c4:=zh (show c3.heap[q]?=some (.cells #[.int .u64 1,.int .u64 1,.int .i64 S.τ.r.now,.string S.τ.r.name,.slice n S.τ.r.l.length p,.slice r S.τ.r.all.length x,.string ⟨#[]⟩,.slice none 0 0,.slice none 0 0,.int .i64 0,.int .i64 0,.slice none 0 0] 382) by rw[W];exact iT _ _ _ _ _ _ _ _ _ _ _ _ K)
 have M:=zh (show Ch (·=q) h c3 by
  rw[W]
  iterate 12 refine aP ?_ (.inl rfl)
  exact Ch.refl _ _)
 rw[<-W];clear W z0 z1 z2 z3 z4 z5 z6 z7 z8 z9 z10 z11 f2 c1;have TW:=V.ch_ M (mG V K);have c5:=L.1.ch_ M (hM.ne L K);have k2:=a4.size;have c6:=f3.ch M (λk c e=>by have:=H.lt c;have e:k=q:=e;omega);have a8:=B2.trans (M.below (B:=w.heap.size) (λk c=>by have c:k=q:=c;omega) B2.size);have c7:=M.keep c2 (by show w.heap.size≠q;have:=aa F;omega);have f4:=zh (show w.heap.size<q by have:=aa F;omega);cases hsh:S.sh with
 |none=>
  refine zb (oG c6 hsh) λc8 N=>?_
  have a9:=zh hsh;have O:=zh (ab c7 N);have c9:=zh (ab c4 N);have d0:=ai a8 N;have d1:=TW.below N;have f5:=c5.below N;clear hsh;obtain⟨f6,f7,f8,f9,g0,g1,g2,g3,g4,g5,g6,g7⟩:=bQ c9;obtain⟨z0,z1,z2,z3,z4,z5,z6,z7,z8,z9,z10,z11⟩:=bQ O;have k3:=aa c9;have k4:=aa O;have g8:=λo=>ad (o:=o) O
  go_wp2_with fail;obtain⟨P,C⟩:=zx ((((((((((((c8.setCell ⟨w.heap.size,0,none⟩ (.int .u64 1)).setCell ⟨w.heap.size,1,none⟩ (.int .u64 1)).setCell ⟨w.heap.size,2,none⟩ (.int .i64 S.τ.r.now)).setCell ⟨w.heap.size,3,none⟩ (.string S.τ.r.name)).setCell ⟨w.heap.size,4,none⟩ (.slice n S.τ.r.l.length p)).setCell ⟨w.heap.size,5,none⟩ (.slice r S.τ.r.all.length x)).setCell ⟨w.heap.size,6,none⟩ (.string ⟨#[]⟩)).setCell ⟨w.heap.size,7,none⟩ (.slice none 0 0)).setCell ⟨w.heap.size,8,none⟩ (.slice none 0 0)).setCell ⟨w.heap.size,9,none⟩ (.int .i64 0)).setCell ⟨w.heap.size,10,none⟩ (.int .i64 0)).setCell ⟨w.heap.size,11,none⟩ (.slice none 0 0));have b0:=zh (show P.heap[w.heap.size]?=some (.cells #[.int .u64 1,.int .u64 1,.int .i64 S.τ.r.now,.string S.τ.r.name,.slice n S.τ.r.l.length p,.slice r S.τ.r.all.length x,.string ⟨#[]⟩,.slice none 0 0,.slice none 0 0,.int .i64 0,.int .i64 0,.slice none 0 0] 382) by rw[C];exact iT _ _ _ _ _ _ _ _ _ _ _ _ O)
  have l:=zh (show Ch (·=w.heap.size) c8 P by
   rw[C]
   iterate 12 refine aP ?_ (.inl rfl)
   exact Ch.refl _ _)
  rw[<-C];refine NG (v:= .tuple #[.agg #[.int .u64 1,.int .u64 1,.int .i64 S.τ.r.now,.string S.τ.r.name,.slice n S.τ.r.l.length p,.slice r S.τ.r.all.length x,.string ⟨#[]⟩,.slice none 0 0,.slice none 0 0,.int .i64 0,.int .i64 0,.slice none 0 0],.int .i64 0]) (aJ results300 _ _ _ _ _ _ _ _ rfl rfl b0 underlying382 rfl zk) rfl ⟨_,rfl,?_,d0.trans (l.below (B:=w.heap.size) (λk c=>by have c:k=w.heap.size:=c;omega) d0.size)⟩;unfold oJ;rw[a9];have g9:=aa F
  exact⟨_,_,_,_,rfl,⟨d1.ch_ l (mG d1 O),f5.ch_ l (λk c e=>by
   have Q:=(ar L.2 (cJ c)).1;have e:k=w.heap.size:=e;omega),⟨none,0,rfl,zm,zm,λh0=>absurd rfl h0⟩,fg _,⟨eO _ _ _,zm⟩⟩⟩
 |some σ=>
  refine(kc c6 a3 hsh).mono ?_;rintro e E ⟨s,rfl,h1,R⟩;have a9:=zh hsh;have b1:=a3.sh σ hsh;have k5:=a8.size;have h2:=zh (ab c7 R);have d2:=zh (ab c4 R);have h3:=ai a8 R;have h4:=TW.below R;have h5:=c5.below R;have h6:=zh (show q<E.heap.size from aa d2);obtain⟨k6,k7,k8,k9,T⟩:=h1;have X:=zh T;obtain⟨h7,h8,h9,i0,i1,i2⟩:=di T.blk;have i3:=aa T.blk;clear hsh T;go_wp2_with fail;refine zJ E 17 (zL [?_,?_,?_,?_,?_]++(Ko E.heap.size σ.P.name σ.P.l)::zL [?_,?_,?_,?_,?_]++(FC E.heap.size σ.P.src)::zL [?_,?_,?_,?_,?_]) zq ?_;rotate_right
  iterate 5
   refine zV ?_
  refine aT zk rfl rfl ?_ λi4=>?_
  ·intro w1 a d y f;have A:=a.2;go_simp;refine(jO _ σ.P.name σ.P.l _ ⟨_,rfl,X.tiers.1.below a.1⟩ (by have:=(aN b1.pol).1;omega)).mono ?_;rintro e h ⟨u,rfl,⟨I,rfl,m,D⟩,i⟩;exact f.out _ _ _ zg ⟨I,rfl,m,D.mono a.1.size⟩ i
  simp only[zS]
  iterate 5
   refine zV ?_
  refine aT zk rfl rfl ?_ λd3=>?_
  ·intro w1 a d y f;have A:=a.2;go_simp;refine(lu _ σ.P.src _ (X.src.1.below a.1) (by have:=b1.src;have:=(aN b1.pol).1;omega)).mono ?_;rintro e h ⟨u,rfl,m,D,i⟩;exact f.out _ _ _ zg ⟨m,D.mono a.1.size⟩ i
  simp only[zS];refine zV ?_;refine aw zk rfl rfl ?_ ?_
  ·intro w1 a d y f;have A:=a.2;go_simp;refine zb (lF (X.below a.1)) λh i=>?_;exact f.out _ _ zz i
  refine zV ?_;refine aw zk rfl rfl ?_ ?_
  ·intro w1 a d y f;have A:=a.2;go_simp;refine zb (CI (X.below a.1)) λh i=>?_;exact f.out _ _ zz i
  refine zV ?_;refine CW zk rfl rfl rfl rfl rfl rfl rfl (λU a d=>?_);obtain⟨l0,i5,b2,d4⟩: ∃g,i4= .agg #[.string σ.P.name,g]/\aH U g σ.P.l/\iX E.heap.size g:=d.out 5;subst i5;obtain⟨b3,d5⟩:aE U d3 σ.P.src/\iX E.heap.size d3:=d.out 11;obtain⟨Y,Z,rfl,-⟩:=id b2;obtain⟨a0,a1,rfl,-⟩:=id b3;have i6:=zh b2;have i7:=zh d4;have i8:=zh b3;have i9:=zh d5;have d6:=ai h3 a.1;have a2:=zh (ab h2 a.1);have b4:=zh (ab d2 a.1);have j0:=h4.below a.1;have j1:=h5.below a.1;have l1:=f4.out;have T:=h6.out;clear d a b2 d4 b3 d5 h7 h8 h9 i0 i1 i2 i3;obtain⟨f6,f7,f8,f9,g0,g1,g2,g3,g4,g5,g6,g7⟩:=bQ b4;obtain⟨z0,z1,z2,z3,z4,z5,z6,z7,z8,z9,z10,z11⟩:=bQ a2;have l2:=aa b4;have l3:=aa a2;have g8:=λo=>ad (o:=o) a2
  have c1:=λo=>ad (o:=o) b4
  have l4:q≠w.heap.size:=zo;have j2:w.heap.size≠q:=zo;go_wp2_with fail;obtain⟨d7,d8⟩:=zx (((((U.setCell ⟨q,6,none⟩ (.string σ.P.name)).setCell ⟨q,7,none⟩ (.slice Y σ.P.l.length Z)).setCell ⟨q,8,none⟩ (.slice a0 σ.P.src.length a1)).setCell ⟨q,9,none⟩ (.int .i64 σ.bound)).setCell ⟨q,10,none⟩ (.int .i64 σ.done));rw[<-d8]
  have d9:=zh (show Ch (·=q) U d7 by
   rw[d8]
   iterate 5 refine aP ?_ (.inl rfl)
   exact Ch.refl _ _)
  have j3:=d9.keep a2 j2;obtain⟨P,C⟩:=zx ((((((((((((d7.setCell ⟨w.heap.size,0,none⟩ (.int .u64 1)).setCell ⟨w.heap.size,1,none⟩ (.int .u64 1)).setCell ⟨w.heap.size,2,none⟩ (.int .i64 S.τ.r.now)).setCell ⟨w.heap.size,3,none⟩ (.string S.τ.r.name)).setCell ⟨w.heap.size,4,none⟩ (.slice n S.τ.r.l.length p)).setCell ⟨w.heap.size,5,none⟩ (.slice r S.τ.r.all.length x)).setCell ⟨w.heap.size,6,none⟩ (.string σ.P.name)).setCell ⟨w.heap.size,7,none⟩ (.slice Y σ.P.l.length Z)).setCell ⟨w.heap.size,8,none⟩ (.slice a0 σ.P.src.length a1)).setCell ⟨w.heap.size,9,none⟩ (.int .i64 σ.bound)).setCell ⟨w.heap.size,10,none⟩ (.int .i64 σ.done)).setCell ⟨w.heap.size,11,none⟩ (.slice none 0 0));have b0:=zh (show P.heap[w.heap.size]?=some (.cells #[.int .u64 1,.int .u64 1,.int .i64 S.τ.r.now,.string S.τ.r.name,.slice n S.τ.r.l.length p,.slice r S.τ.r.all.length x,.string σ.P.name,.slice Y σ.P.l.length Z,.slice a0 σ.P.src.length a1,.int .i64 σ.bound,.int .i64 σ.done,.slice none 0 0] 382) by rw[C];exact iT _ _ _ _ _ _ _ _ _ _ _ _ j3)
  have l:=zh (show Ch (λk=>k=q\/k=w.heap.size) U P by
   rw[C]
   iterate 12 refine aP ?_ (.inl (.inr rfl))
   exact d9.mono λk _ c=> .inl c)
  rw[<-C];refine NG (v:= .tuple #[.agg #[.int .u64 1,.int .u64 1,.int .i64 S.τ.r.now,.string S.τ.r.name,.slice n S.τ.r.l.length p,.slice r S.τ.r.all.length x,.string σ.P.name,.slice Y σ.P.l.length Z,.slice a0 σ.P.src.length a1,.int .i64 σ.bound,.int .i64 σ.done,.slice none 0 0],.int .i64 0]) (aJ results300 _ _ _ _ _ _ _ _ rfl rfl b0 underlying382 rfl zk) rfl ⟨_,rfl,?_,d6.trans (l.below (B:=w.heap.size) (λk c=>by rcases c with c|c<;>omega) d6.size)⟩;unfold oJ;rw[a9];have g9:=aa F;refine⟨_,_,_,_,rfl,⟨j0.ch_ l ?_,j1.ch_ l ?_,i6.ch_ l ?_,i8.ch_ l ?_,⟨eO _ _ _,zm⟩⟩⟩
  ·rintro k c (e|e)
   ·exact mG V K k c e
   ·have Q:=mG V c2 k c
    exact Q e
  ·rintro k c (e|e)
   ·exact hM.ne L K k c e
   ·have Q:=(ar L.2 (cJ c)).1
    omega
  ·intro k c e
   have Q:=Bb i7 c;omega
  ·intro k c e
   have Q:=Bb i9 c;omega
end
def Lr:ByteArray:=⟨#[108,105,118,101]⟩
def Ls:ByteArray:=⟨#[109,111,118,101]⟩
def fZ(t:Int):ByteArray:=if 5<=t then Ls else Lr
def yL(t:Int)(w:Qm):Qo zP 340 #[t] w (aK w (.string (fZ t))):=by
 unfold fZ;by_cases a:5<=t
 ·rw[NH a]
  go_enter func340,ntmps340;go_wp2;go_ret;exact⟨rfl,ND _ _⟩
 ·rw[NB a]
  go_enter func340,ntmps340;go_wp2;go_ret;exact⟨rfl,ND _ _⟩
def ri(r:ay)(n:Int)(w:Qm)(e:Qs (r.name.size<=1000000))(a:aQ n):Qo zP 391 #[r.val,n] w (aK w (.int .i64 (cV r.name n))):=by
 have c:=zh a;unfold ay.val;clear a;go_enter func391,ntmps391;go_wp2_with fail;refine zb (nj r.name n _ e c) λf d=>?_
 go_wp2;go_ret;exact⟨rfl,ai ze d⟩
def CY:(zP.info? 59).map (λi=>(i.zero,i.size,i.bytes))=some (some (.slice none 0 0),1,24):=zk
def Kt(w:Qm)(B:Nat)(o:Option ay)(n:Nat)(k:Nat)(x:Qn):Prop:=
 (∃r,o=some r/\cV r.name n=k/\w.ownsRow B 65 7 x 1 r.cells)\/(x= .slice none 0 0/\ ∀r∈o,cV r.name n≠k)
def FX(w:Qm)(o:Option ay)(n:Nat)(e:Qq)(w':Qm):Prop:=
 ∃u a,e= .returned u/\Qs (w'.ownsRow w.heap.size 59 1 u n a)/\a.length=n/\Qs (∀k x,a[k]?=some x->Kt w' w.heap.size o n k x)/\Qr w.heap.size w w'
def nP{s:ByteArray}{n:Nat}(d:1<=n): ∃k:Nat,cV s n=k/\k<n:=by
 unfold cV;rw[NB zo];have a:=Qh (gj s.data.toList:Int) (zo:(n:Int)≠0);have c:=PZ (gj s.data.toList:Int) (zo:(0:Int)<n);exact⟨((gj s.data.toList:Int)%n).toNat,zo,zo⟩
def nQ(z:Qn)(n:Nat):madeCells #[z] n=(List.replicate n z).toArray:=by
 unfold madeCells;apply Array.ext
 ·simp
 ·intro i a c
  simp[Nat.mod_one]
def rj{w:Qm}{B g n:Nat}{e:Qp}{a:List Qn}(d:w.heap[g]?=some (.cells a.toArray e))(f:B<=g)(c:a.length=n)(h:n<=1000):w.ownsRow B e 1 (.slice (some ⟨g,0,none⟩) n n) n a:=
 ⟨by simpa using c,.inr ⟨g,n,a.toArray,rfl,f,d,Nt _,by unfold maxLen;omega,by simpa using c,by simp[<-c]⟩⟩
def eU{w w':Qm}(a:w.grownBy w' none):Qr w.heap.size w w':=⟨a.os,a.tape,a.output,a.size,λk c=>a.block k c zm⟩
def yM{v:Qn}{o:Option ay}{w:Qm}(a2:aB 7 ay.cells w v o.toList)(c3:Qs (rS o))(n:Nat)(c4:1<=n/\n<=8):Qo zP 331 #[v,(n:Int)] w (FX w o n):=by
 have a3:=zh a2;obtain⟨a,c,rfl,-,-⟩:=a2;obtain⟨n1,c5⟩:=c4;have c6:=λw=>run_make_row' (P:=zP) 424 59 (.slice none 0 0) 24 underlying424 CY rfl .i64 .i64 n zo zo w
 have c7:max (n:Int) 1=n:=zo;cases o with
 |none=>
  go_enter func331,ntmps331;go_wp2_with fail;refine NM 1 ?_;rw[NF];go_wp2;go_ret;refine⟨_,List.replicate n (.slice none 0 0),rfl,?_,zm,?_,ak _ _⟩
  ·exact rj (by rw[<-nQ];exact Nu w _) zl zm zo
  ·intro k x d
   right
   refine⟨?_,λr a4=>by cases a4⟩;rw[Pk] at d;split at d
   ·exact(Oa d).symm
   ·cases d
 |some r=>
  obtain⟨p,F,H⟩:=nP (s:=r.name) n1;have q:=zh F;obtain⟨c8,c9,rfl,d0,I,J,K,L,M,N,O⟩:=ds (j:=0) a3 rfl;simp only[Ox,NR] at I J K L M N O;go_enter func331,ntmps331;go_wp2_with fail;refine NM 2 ?_;rw[NF];go_wp2_with fail;refine zb (ri r n _ (c3 r rfl).1 (by unfold aQ;omega)) λh t=>?_
  rw[q];have Q:=(ak w (.cells (madeCells #[z0] n) 59));have u:=zh (ab (ab (Nu w (.cells (madeCells #[z0] n) 59)) (ak _ (.cells #[r.name,(r.start:Int),(r.agg.c:Int),(r.agg.hi:Int),.int .u64 r.agg.lo,(r.agg.mn:Int),(r.agg.mx:Int)] 65))) t);have R:=zh (ab (ag (w:=w.alloc (.cells (madeCells #[z0] n) 59)) (o:= .cells #[r.name,(r.start:Int),(r.agg.c:Int),(r.agg.hi:Int),.int .u64 r.agg.lo,(r.agg.mn:Int),(r.agg.mx:Int)] 65) (b:=w.heap.size+1) zm) t);have T:=ai (ai Q ze) t
  have U:h.cell? ⟨w.heap.size,p,none⟩=some (.slice none 0 0):=by
   rw[NA h _ _ _ _ _ u,nQ];simp[H]
  obtain⟨a5,a6,a7,a8,a9,b0,b1⟩:=lP R;have b2:=aa R;have d1:=aa u;obtain⟨b3,b4,b5,b6,b7⟩:=info_parts jW;clear I J K L M N O Q F;go_wp2_with fail;refine aC (S:=(iz h)) 10 zk ?_ (λf=>?_)
  ·(first|exact ax _|exact aj _ _ f m|exact aj _ _ f ze|exact f)
  refine zT 0 ?_;refine zT 1 ?_;refine zT 2 ?_;refine zT 3 ?_;refine zT 4 ?_;refine zT 5 ?_;refine zT 6 ?_;refine zO 7 λb8 A=>?_
  go_simp
  skip
  refine zE A (by first|exact ax _|exact aj _ _ f m|exact aj _ _ f ze|exact f) λf=>?_
  refine zO 8 λb8 A=>?_
  rw[NH (by simp[Region.wanted])];refine cY (enc:=ay.cells) _ _ 59 rfl h.heap.size 65 b3 _ 64 underlying59 b4 b5 b6 b7 rfl zd _ _ 0 [] [r] rfl zw rfl (bC 7 (c:=1) (l:= [r]) (ag rfl) rfl ⟨Nt 1,zd⟩) (λ_=>rfl) (by intro x y V;simp only[ay.cells,NL,NJ,Ou] at V;rcases V with rfl|rfl|rfl|rfl|rfl|rfl|rfl<;>rfl) zm zd zm (λb9 w7 B W=>?_);have m:=eU W;refine zE A (by first|exact ax _|exact aj _ _ f m|exact aj _ _ f ze|exact f) λf=>?_
  refine zT 9 ?_;refine zF ?_;have X:=ec (show Qr (h.alloc (.cells #[r.name,(r.start:Int),(r.agg.c:Int),(r.agg.hi:Int),.int .u64 r.agg.lo,(r.agg.mn:Int),(r.agg.mx:Int)] 65)).drew.heap.size (h.alloc (.cells #[r.name,(r.start:Int),(r.agg.c:Int),(r.agg.hi:Int),.int .u64 r.agg.lo,(r.agg.mn:Int),(r.agg.mx:Int)] 65)).drew w7 from m);have C:=ai (ak h (.cells #[r.name,(r.start:Int),(r.agg.c:Int),(r.agg.hi:Int),.int .u64 r.agg.lo,(r.agg.mn:Int),(r.agg.mx:Int)] 65)) X;have D:=zh (ab u C);have Y:=zh (show w7.ownsRow h.heap.size 65 7 b9 1 r.cells by simpa using B);obtain⟨Z,a0,rfl⟩:=az B;have d2:=aa D;have d3:=ad (o:=p) D;have d4:=ae U C;clear B W m f X a5 a6 a7 a8 a9 b0 b1 U;go_wp2_with fail;rw[NF];go_wp2_with fail;go_ret;have a1:=al (i:=p) D (.slice Z (1:Nat) a0);have d5:=b2;refine⟨_,(List.replicate n (.slice none 0 0)).set p (.slice Z (1:Nat) a0),rfl,?_,zm,?_,ao (ai T C) zl⟩
  ·exact rj (by rw[nQ,NN] at a1;exact a1) zl zm zo
  ·intro k x d
   rw[Pq] at d;split at d
   ·rename_i E
    subst E;simp only[Pg,H,if_true,OF] at d;subst d;refine .inl ⟨r,rfl,q,cj (aZ Y λg c1=>af _ ?_) T.size⟩;have d6:=(ar Y c1).1;show g≠w.heap.size;omega
   ·rename_i E
    rw[Pk] at d;split at d
    ·refine .inr ⟨(Oa d).symm,λr' c2 e=>E ?_⟩
     obtain rfl:r=r':=by simpa using c2
     rw[q] at e;omega
    ·cases d
def fM(w:Qm)(v v':Qn):Prop:=v'.ownBlock=v.ownBlock\/ ∀g,v'.ownBlock=some g->w.heap.size<=g
def yN{P:Program}{w w':Qm}{v v':Qn}{base m c n:Nat}{t k e:Qp}{i:TypeInfo}{z:Qn}{l f:List Qn}{a:Addr}(x:P.underlying t=some (.slice e))(y:P.info? e=some i)(E:i.zero=some z)
 (O:z.cells.size=i.size) (Q:0<i.size) (o:w.ownsRow base e i.size v n l) (p:f.length=m*i.size) (A: ∀j u,f[j]?=some u->w.cell? (a.add j)=some u) (F: ∀u∈f,u.oneCell'=true)
 (H:n+m<=maxLen) (I:(n+m)*i.bytes<=140737488355328) (Y:base<=w.heap.size) (B:(Builtin.append_ #[t,t] k #[v,.slice (some a) m c]).run P w= .ok v' w'):fM w v v':=by
 have R:n+m<=9223372036854775807:=by simp only[maxLen] at H;omega
 rcases o.2 with⟨rfl,rfl⟩|⟨g,cap,C,rfl,S,r,T,U,J,V⟩
 ·have K:l= []:=NI (by simpa using o.1)
  subst K;obtain⟨W,X,d,L,-,-⟩:=run_append_own (P:=P) w w.heap.size t k e i z i.size i.bytes x y E rfl rfl O Q (.slice none 0 0) 0 [] (World.ownsRow_nil w w.heap.size e i.size) a m c f p A F H I zl;rw[B] at d;injection d with h s
  subst h s;exact .inr λg r=>(ar L r).1
 ·by_cases D:n+m<=cap
  ·have M:n*i.size+f.length<=C.size:=by rw[p,J,<-Nat.add_mul];exact Nat.mul_le_mul_right _ D
   have d:=run_append_room (P:=P) w t k e i x y g n cap C r a m c f p A F D M;rw[B] at d;injection d with h s
   exact .inl (by rw[h];rfl)
  ·have N: ∀j u,l[j]?=some u->w.cell? ((⟨g,0,none⟩:Addr).add j)=some u:=o.cells (g:=g) rfl
   have d:=run_append_grow (P:=P) w t k e i z x y E ⟨g,0,none⟩ n cap l o.1 N a m c f p A zo zo (growslice_fits zo I);rw[B] at d;injection d with h s
   refine .inr λq hq=>?_
   rw[h] at hq;have:w.heap.size=q:=Oa hq;omega
def bX{F:Type}{d:Nat}{enc:F->List Qn}{P:Program}{w:Qm}{o:Oper}{a:Act}{H:Act->Qm->Prop}{W:Exit->Act->Qm->Prop}(s x:Operand)(t:Qp)
 (I:o.op= .call {callee:= .builtin .append,args:=#[s,x],argTypes:=#[t,t]})
 (base:Nat) (e:Qp) (i:TypeInfo) (z:Qn) (bytes:Nat) (q:P.underlying t=some (.slice e)) (r:P.info? e=some i) (J:i.zero=some z) (X:i.size=d) (Y:i.bytes=bytes) (K:z.cells.size=d) (a4:1<=d)
 (v u:Qn) (n:Nat) (k:List Qn) (l:List F) (L:a.eval s=v) (m:w.ownsRow base e d v n k) (h:a.eval x=u) (Z:aB d enc w u l) (M: ∀x,(enc x).length=d) (a0: ∀x∈l,∀y∈enc x,y.oneCell'=true)
 (a5:(n+l.length)*bytes<140737488355328) (a1:1<=bytes) (N:base<=w.heap.size)
 (O: ∀v' w',w'.ownsRow base e d v' (n+l.length) (k++l.flatMap enc)->w.grownBy w' v.ownBlock->fM w v v'->H (a.put o.dst v') w'):o.wp P a w H W:=by
 obtain⟨g,c,rfl,Q,A⟩:=Z;cases g with
 |none=>
  have f:l= []:=by
   by_cases f:l= []
   ·exact f
   ·obtain⟨_,_,e,_⟩:=A f;cases e
  subst f;obtain rfl:=Q.2.2 rfl;have R:=run_append_owned_none (P:=P) (w:=w) base t o.type e i d q r v n k m;unfold Oper.wp;simp[execOp,I,resolve,invoke,builtin,L,h,R,Result.andThen];exact O v w (by simpa using m) ⟨rfl,rfl,rfl,Nt _,λ_ _ _=>rfl⟩ (.inl rfl)
 |some g=>
  have B: ∀j u,(l.flatMap enc)[j]?=some u->w.cell? (g.add j)=some u:=λj u C=>by
   by_cases f:l= []
   ·subst f;simp at C
   ·obtain⟨b,o',e,_,S⟩:=A f
    injection e with e;subst e
    rw[pK];exact S j u C
  have a2:n+l.length<=(n+l.length)*bytes:=Nat.le_mul_of_pos_right _ a1;subst X;subst Y
  have D: ∀y∈l.flatMap enc,y.oneCell'=true:=λy p=>by
   obtain⟨x,h,p⟩:=List.mem_flatMap.1 p;exact a0 x h y p
  obtain⟨v',w',E,T,U,a3⟩:=run_append_own (P:=P) w base t o.type e i z i.size i.bytes q r J rfl rfl K zo v n k m g l.length c (l.flatMap enc) (fn M l) B D (by unfold maxLen;omega) zo N;have V:=yN (P:=P) q r J K zo m (fn M l) B D (by unfold maxLen;omega) zo N E;unfold Oper.wp execOp;simp only[I,resolve,invoke,builtin,Sem.run_bind,Sem.run_pure,Result.andThen_ok,List.map_toArray,Oq,List.map_nil,L,h,E];exact O v' w' T U V
def bb{f:Type}{c:Nat}{enc:f->List Qn}{P:Program}{w:Qm}{ops:Array Oper}{rest:List Oper}{o:Oper}{a:Act}{g:Exit->Act->Qm->Prop}(p:o.guard=none)(s x:Operand)(t:Qp)
 (q:o.op= .call {callee:= .builtin .append,args:=#[s,x],argTypes:=#[t,t]})
 (base:Nat) (e:Qp) (i:TypeInfo) (z:Qn) (bytes:Nat) (r:P.underlying t=some (.slice e)) (A:P.info? e=some i) (B:i.zero=some z) (C:i.size=c) (D:i.bytes=bytes) (E:z.cells.size=c) (F:1<=c)
 (v u:Qn) (n:Nat) (d:List Qn) (l:List f) (H:a.eval s=v) (I:w.ownsRow base e c v n d) (J:a.eval x=u) (K:aB c enc w u l) (L: ∀x,(enc x).length=c) (M: ∀x∈l,∀y∈enc x,y.oneCell'=true)
 (N:(n+l.length)*bytes<140737488355328) (O:1<=bytes) (Q:base<=w.heap.size)
 (R: ∀v' w',w'.ownsRow base e c v' (n+l.length) (d++l.flatMap enc)->w.grownBy w' v.ownBlock->fM w v v'->wpList P ops g rest (a.put o.dst v') w'):wpList P ops g (o::rest) a w:=
 Pr p λ_ h=>bX s x t q base e i z bytes r A B C D E F v u n d l H I J K L M N O Q λv' w' j k m=>h _ _ (R v' w' j k m)
structure dS where
 id:Int
 tier:Int
 shard:Int
 bv:Qn
 rv:Qn
def dS.cells(p:dS):List Qn:= [.int .u64 p.id,.int .i64 p.tier,.int .i64 p.shard,.int .i64 0,.int .i64 1,p.bv,p.rv]
abbrev cx:=Int×Int×ay
def FY(w:Qm)(B:Nat)(p:dS)(y:cx):Prop:=p.id=0/\p.tier=y.1/\p.shard=y.2.1/\p.bv= .slice none 0 0/\w.ownsRow B 65 7 p.rv 1 y.2.2.cells
def dy(w:Qm)(B:Nat):List dS->List cx->Prop
 | [],[]=>True
 |p::ps,y::ys=>FY w B p y/\dy w B ps ys
 |_,_=>False
def dy.len{w:Qm}{B:Nat}: ∀{ps:List dS} {ys:List cx},dy w B ps ys->ps.length=ys.length
 | [],[],_=>rfl
 |p::ps,y::ys,a=>by rw[NW,NW,dy.len a.2]
 | [],_::_,a=>a.elim
 |_::_,[],a=>a.elim
def dy.snoc{w:Qm}{B:Nat}{p:dS}{y:cx}: ∀{ps:List dS} {ys:List cx},dy w B ps ys->FY w B p y->dy w B (ps++ [p]) (ys++ [y])
 | [],[],_,c=>⟨c,trivial⟩
 |q::ps,z::ys,a,c=>⟨a.1,dy.snoc a.2 c⟩
 | [],_::_,a,_=>a.elim
 |_::_,[],a,_=>a.elim
def dy.get{w:Qm}{B:Nat}: ∀{ps:List dS} {ys:List cx} {j:Nat} {y:cx},dy w B ps ys->ys[j]?=some y-> ∃p,ps[j]?=some p/\FY w B p y
 | [],[],j,y,_,a=>by simp at a
 |p::ps,z::ys,0,y,a,c=>by simp at c;subst c;exact⟨p,rfl,a.1⟩
 |p::ps,z::ys,j+1,y,a,c=>by
  obtain⟨q,d,e⟩:=dy.get a.2 (show ys[j]?=some y by simpa using c);exact⟨q,by simpa using d,e⟩
 | [],_::_,_,_,a,_=>a.elim
 |_::_,[],_,_,a,_=>a.elim
def dy.step{w w':Qm}{B:Nat}(d: ∀g c,B<=g->w.heap[g]?=some (.cells c 65 (0,0))->w'.heap[g]?=w.heap[g]?): ∀{ps:List dS} {ys:List cx},dy w B ps ys->dy w' B ps ys
 | [],[],_=>trivial
 |p::ps,y::ys,a=>⟨⟨a.1.1,a.1.2.1,a.1.2.2.1,a.1.2.2.2.1,aZ a.1.2.2.2.2 λg e=>by
  obtain⟨f,-,c,h⟩:=ar a.1.2.2.2.2 e;exact d g c f h⟩,dy.step d a.2⟩
 | [],_::_,a=>a.elim
 |_::_,[],a=>a.elim
def dy.below{w w':Qm}{B:Nat}{ps:List dS}{ys:List cx}(c:dy w B ps ys)(d:Qr w.heap.size w w'):dy w' B ps ys:=c.step λg e _ a=>d.block g (aa a)
def kD:(zP.info? 340).map (λi=>(i.zero,i.size,i.bytes))=some (some (.agg #[.int .u64 0,(),(),(),(),z0,z0]),7,88):=zk
def rk(tier:Int)(n:Int)(o:Option ay):List cx:=match o with
 |none=> []
 |some r=> [(tier,cV r.name n,r)]
def gz(first:Int)(l:List ah)(tabs:List (Option ay))(k:Nat):List cx:=(List.range k).flatMap λi:Nat=>rk (first+(i:Int)) (l.getD i ah.zero).shards (tabs.getD i none)
def lG(first:Int)(l:List ah)(tabs:List (Option ay))(k:Nat):gz first l tabs (k+1)=gz first l tabs k++rk (first+k) (l.getD k ah.zero).shards (tabs.getD k none):=by
 unfold gz;rw[PB,NK];simp
def th(first:Int)(l:List ah)(tabs:List (Option ay)): ∀k,(gz first l tabs k).length<=k
 |0=>by simp[gz]
 |k+1=>by
  rw[lG,Nw];have a:=th first l tabs k
  have c:(rk (first+k) (l.getD k ah.zero).shards (tabs.getD k none)).length<=1:=by unfold rk;split<;>simp
  omega
def hP(tier:Int)(n:Int)(o:Option ay)(k:Nat):List cx:=match o with
 |none=> []
 |some r=>if cV r.name n<k then [(tier,cV r.name n,r)] else []
def yO(tier n:Int)(o:Option ay)(c:1<=n):hP tier n o 0= []:=by
 unfold hP;cases o with
 |none=>rfl
 |some r=>
  obtain⟨k,a,-⟩:=nP (s:=r.name) (n:=n.toNat) zo;rw[(zo:((n.toNat:Nat):Int)=n)] at a;dsimp only;rw[NB (by rw[a];omega)]
def CZ(tier n:Int)(o:Option ay)(k:Nat)(e:1<=n)(c:n=k):hP tier n o k=rk tier n o:=by
 unfold hP rk;cases o with
 |none=>rfl
 |some r=>
  obtain⟨j,a,d⟩:=nP (s:=r.name) (n:=k) zo;rw[<-c] at a;dsimp only;rw[NH zo]
def Da(tier n:Int)(r:ay)(k:Nat)(a:cV r.name n=k):hP tier n (some r) k= []/\hP tier n (some r) (k+1)= [(tier,(k:Int),r)]:=by
 unfold hP;dsimp only;rw[NB zo,NH zo,a];exact⟨rfl,rfl⟩
def FZ(tier n:Int)(o:Option ay)(k:Nat)(c: ∀r∈o,cV r.name n≠k):hP tier n o (k+1)=hP tier n o k:=by
 unfold hP;cases o with
 |none=>rfl
 |some r=>
  have:=c r rfl;dsimp only;by_cases a:cV r.name n<k
  ·rw[NH a,NH zo]
  ·rw[NB a,NB zo]
structure uw(w:Qm)(B bo:Nat)(v:Qn)(L:List dS)(ys:List cx):Prop where
 blk:w.heap[bo]?=some (.cells #[v] 333)
 own:w.ownsRow (bo+1) 340 7 v L.length (L.flatMap dS.cells)
 ps:dy w B L ys
def nR(bo:Nat)(v:Qn)(k:Nat):Prop:=k=bo\/v.ownBlock=some k
def fM.trans{w a:Qm}{u v x:Qn}(d:fM w u v)(k:fM a v x)(e:w.heap.size<=a.heap.size):fM w u x:=by
 rcases k with k|k
 ·unfold fM;rw[k];exact d
 ·exact .inr λg c=>Nq e (k g c)
def yP(w:Qm)(F:Nat)(recv:Qn)(bo:Nat)(v:Qn)(n:Nat)(tabs:List (Option ay)):Prop:=
 ug F/\ ∀i,i<n-> ∀w',Ch (nR bo v) w w'->Qo zP F #[recv,(i:Int)] w' (AQ w' (tabs.getD i none).toList)
structure Kp(w w':Qm):Prop where
 size:w.heap.size<=w'.heap.size
 keep: ∀(g:Nat) (cur:Array Qn) (T:Qp) (fr:Nat×Nat),w.heap[g]?=some (.cells cur T fr)->T≠333->T≠340->w'.heap[g]?=w.heap[g]?
def Kp.refl(w:Qm):Kp w w:=⟨Nt _,λ_ _ _ _ _ _ _=>rfl⟩
def Kp.trans{a b c:Qm}(i:Kp a b)(k:Kp b c):Kp a c:=⟨Nq i.size k.size,λg d T fr e f h=>(k.keep g d T fr ((i.keep g d T fr e f h).trans e) f h).trans (i.keep g d T fr e f h)⟩
def Kp.of_below{w w':Qm}(a:Qr w.heap.size w w'):Kp w w':=⟨a.size,λg _ _ _ c _ _=>a.block g (aa c)⟩
section
variable{w w':Qm}{B bo:Nat}{v:Qn}{L:List dS}{ys:List cx}
def uw.below(a:uw w B bo v L ys)(c:Qr w.heap.size w w'):uw w' B bo v L ys:=⟨ab a.blk c,aS a.own c,a.ps.below c⟩
def wy{F:Nat}{recv:Qn}{first:Int}{pn:ByteArray}{pv:Qn}{l:List ah}{tabs:List (Option ay)}(H:Qs (uw w B bo v L ys))(m6:B<=bo+1)(m7:0<=first/\first<=5)(g0:Qs (aH w pv l))(j8:l.length<=5)(Q: ∀i,i<l.length->1<=(l.getD i ah.zero).shards/\(l.getD i ah.zero).shards<=8)
 (j9:Qs (∀k,aD pv k-> ¬nR bo v k)) (m8:L.length<=10) (k0:Qs (∀o∈tabs,rS o)) (g1:Qs (yP w F recv bo v l.length tabs)):
 Qo zP 330 #[first,.agg #[pn,pv],.func (.func F) #[recv] #[],bo] w (λe w'=>e= .returned (.tuple #[])/\(∃v' s,uw w' B bo v' s (ys++gz first l tabs l.length)/\fM w v v')/\Ch (nR bo v) w w'):=by
 have g2:=zh Q;obtain⟨k1,k2,rfl,-⟩:=id g0;obtain⟨N,a8⟩:=zy l.length;rw[<-a8] at j8⊢;clear Q;go_enter func330,ntmps330;go_wp2_with fail;go_loopw [15] (λi wr=> ∃(k:Nat) (v':Qn) (s:List dS),k<=N/\i= .int .i64 k/\Qs (uw wr B bo v' s (ys++gz first l tabs k))/\Qs (Ch (nR bo v) w wr)/\Qs (s.length<=L.length+k)/\Qs (fM w v v')) (λi _=>N-(intOf i).toNat)
 case atStart=>exact⟨0,v,L,Nx _,rfl,zh (by simpa[gz] using H.below ze),(Ch.fresh ze),zh zl,zh (.inl rfl)⟩
 case round=>
  obtain⟨k,v',s,k3,rfl,a9,b0,d1,d2⟩:=hrel;by_cases b1:k<N
  ·have d3:k<l.length:=by rw[<-a8];exact b1
   obtain⟨k4,k5,rfl,k6,⟨d4,d5,d6,b2⟩,g3,-⟩:=bS (g0.ch_ b0 j9) d3;obtain⟨T,b3⟩:=zy (l.getD k ah.zero);rw[<-b3] at d4 d5 d6 b2;have d7:=g2 k d3;rw[<-b3] at d7;obtain⟨d,b4⟩: ∃d:Nat,T.shards=d:=⟨T.shards.toNat,zo⟩;rw[b4] at b2 d7;have g4:=zh b4;obtain⟨t,b5⟩:=zy (tabs.getD k none)
   have g5:=zh (show rS t by
    rw[b5];intro r O;rw[Nr] at O;cases X:tabs[k]? with
    |none=>rw[X] at O;cases O
    |some o=>rw[X] at O;exact k0 o (NO X) r O)
   have d8:=zh (g1.2 k (by rw[<-a8];exact b1));rw[<-b5] at d8;have g6:=zh g1.1;have k7:=aa a9.blk;clear b4 g3;go_wp2_with fail;obtain⟨P,a0⟩:=zx (wr.alloc (.cells #[T.name,(T.every:Int),(T.keep:Int),(d:Int)] 116));have d9:=zh (show P.heap[wr.heap.size]?=some (.cells #[T.name,(T.every:Int),(T.keep:Int),(d:Int)] 116) by rw[a0];exact Nu _ _);have b6:Qr wr.heap.size wr P:=by rw[a0];exact ak _ _
   have g7:=a9.below b6;have C:=b0.trans (Ch.fresh b6);obtain⟨c0,g8,g9,h0⟩:=fG d9;have h1:=aa d9;rw[<-a0];clear d4 d5 d6 b2 a0 b6;refine aC (S:=(iz P)) 8 zk ?_ (λf=>?_)
   ·(first|exact ax _|exact aj _ _ f D|exact aj _ _ f ze|exact f)
   refine zT 0 ?_;refine zT 1 ?_;refine zT 3 ?_;refine zT 4 ?_;refine zT 7 ?_;refine zO 2 λh2 b7=>?_
   go_simp;rw[g6];refine(d8 _ (show Ch (nR bo v) w P.drew from⟨C.os,C.tape,C.output,C.size,C.block⟩)).mono ?_;rintro e h3 ⟨k8,rfl,e0,D⟩;have e1:=zh (ec D);have e2:=(aB.own e0).1;refine zE b7 (by first|exact ax _|exact aj _ _ f D|exact aj _ _ f ze|exact f) λf=>?_
   refine zO 5 λh2 b7=>?_
   go_simp;refine(yM (o:=t) e2 g5 d zo).mono ?_;rintro e h4 ⟨k9,e3,rfl,b8,e4,h5,D⟩;have e5:=ai e1 D;obtain⟨h6,h7,rfl⟩:=az b8;refine zE b7 (by first|exact ax _|exact aj _ _ f D|exact aj _ _ f ze|exact f) λf=>?_
   refine zT 6 ?_;refine zH ?_;have h8:=g7.below e5;have h9:=C.trans (Ch.fresh e5);have i0:=zh e4;have l0:=C.size;have l1:B<=P.heap.size:=zo;clear e4 e0 e2 f c0 g8 g9 h0 h1;go_wp2_with fail;go_loopw [27] (λi b9=> ∃(m:Nat) (q:Qn) (h:List dS),m<=d/\i= .int .i64 m/\Qs (uw b9 B bo q h (ys++gz first l tabs k++hP (first+k) d t m))/\Qs (Ch (nR bo v) w b9)/\Qs (Kp h4 b9)/\Qs (h.length<=s.length+(hP (first+k) d t m).length)/\Qs (fM w v q)) (λi _=>d-(intOf i).toNat)
   case atStart=>exact⟨0,v',s,Nx _,rfl,zh (by rw[yO _ _ _ (zo:(1:Int)<=(d:Int)),OJ];exact h8),h9,(Kp.refl _),zh (Nat.le_add_right _ _),d2⟩
   case round=>
    obtain⟨m,q,h,l2,rfl,c1,c2,a1,a2,a3⟩:=hrel;by_cases c3:m<d
    ·obtain⟨a4,c4⟩: ∃a4,e3[m]?=some a4:=⟨_,Np (by rw[i0];exact c3)⟩
     have e6:=zh (h5 m a4 c4)
     have e7:wr.ownsRow h3.heap.size 59 1 (.slice h6 d h7) d e3:=aZ b8 λg a=>by
      obtain⟨-,-,u,n⟩:=ar b8 a;exact a1.keep g u 59 (0,0) n zd zd
     obtain⟨g,cap,e,-,i1,l3,l4,-,e8⟩:=dr e7 zo;injection e with i2 _ i3
     subst i2 i3;have i4:=e8 m a4 c4;clear e8 c4 e7;rcases e6.out with⟨r,e9,Q,a5⟩|⟨rfl,f0⟩
     ·have R:=zh e9
      have i5:=zh (aZ a5 λg a=>by
       obtain⟨-,-,u,n⟩:=ar a5 a;exact a1.keep g u 65 (0,0) n zd zd)
      have U:=zh (Da (first+k) d r m Q);obtain⟨E,I,rfl⟩:=az a5;have l5:=e1.size;clear e9 Q a5;go_wp2_with fail;refine zb (jX 1 _ zo) λA V=>?_
      rw[show sL 1=1 from rfl];have W:=c1.below V;have f1:=aS i5 V;have i6:=a1.trans (Kp.of_below V);have f2:=c2.trans (Ch.fresh V);obtain⟨i7,i8,i9,j0,j1⟩:=info_parts kD
      have l6:h.length<=20:=by
       have p:=a2.out;have a6:=d1.out;rw[R,U.1] at p;simp at p;omega
      have c0:=(show wr.heap.size<=A.heap.size from V.size);have j2:A.cell? ⟨bo,0,none⟩=some q:=by rw[NA A _ _ _ _ _ W.blk];rfl
      have l7:=aa W.blk;clear i4 i1;have l8:=ak A (.cells #[.int .u64 0,(first+k:Int),(m:Int),(),(1:Int),z0] 338);go_wp2_with (at_builtin;refine bb (enc:=dS.cells) rfl _ _ 333 rfl (bo+1) 340 i7 _ 88 underlying333 i8 i9 j0 j1 rfl zd _ _ h.length _ [dS.mk 0 (first+k) m (.slice none 0 0) (.slice E (1:Nat) I)] rfl ((W.own.alloc _).alloc _) rfl (bC 7 (c:=1) (l:= [dS.mk 0 (first+k) m (.slice none 0 0) (.slice E (1:Nat) I)]) (ag zm) rfl ⟨Nt 1,zd⟩) (λ_=>rfl) ?qc1 ?qc2 zd ?qc3 ?_)
      case qc1=>intro x X y f3;obtain rfl:=Nz.1 X;simp only[dS.cells,NL,NJ,Ou] at f3;rcases f3 with rfl|rfl|rfl|rfl|rfl|rfl|rfl<;>rfl
      case qc2=>show(h.length+1)*88<140737488355328;omega
      case qc3=>simp;omega
      intro J w7 c5 f4 f5;obtain⟨c6,a7⟩:=zx ((A.alloc (.cells #[.int .u64 0,(first+k:Int),(m:Int),(),(1:Int),z0] 338)).alloc (.cells #[.int .u64 0,(first+k:Int),(m:Int),(),(1:Int),z0,.slice E (1:Nat) I] 340));have K:Qr A.heap.size A c6:=by rw[a7];exact(ak A _).trans (ze.mono zm)
      have Y:=W.below K;have Z:c6.grownBy w7 q.ownBlock:=by rw[a7];exact f4
      have f6:q.ownBlock≠some bo:=λe=>by have:=(ar Y.own e).1;omega
      have M:w7.heap[bo]?=some (.cells #[q] 333):=(Z.block bo (aa Y.blk) (λe=>f6 e.symm)).trans Y.blk
      have c7:Kp c6 w7:=⟨Z.size,λg u T fr a p a6=>Z.block g (aa a) (λe=>by
       obtain⟨-,-,l9,n⟩:=ar Y.own e.symm;rw[a] at n;injection n with n
       injection n with _ n
       exact a6 n)⟩
      have c8:Kp w7 (w7.setCell ⟨bo,0,none⟩ J):=⟨zm,λg u T fr a p a6=>af _ (λe=>by
       have e:g=bo:=e;rw[e,M] at a;injection a with a
       injection a with _ a
       exact p a.symm)⟩
      have j3:=i6.trans ((Kp.of_below K).trans (c7.trans c8));have c9:=(Kp.of_below K).trans (c7.trans c8)
      have d0:(w7.setCell ⟨bo,0,none⟩ J).ownsRow (bo+1) 340 7 J (h.length+1) ((h++ [dS.mk 0 (first+k) m (.slice none 0 0) (.slice E (1:Nat) I)]).flatMap dS.cells):=by
       rw[NK];exact aZ (by simpa using c5) λg a=>af _ (λe=>by have:=(ar c5 a).1;have e:g=bo:=e;omega)
      have j4:=zh (show uw (w7.setCell ⟨bo,0,none⟩ J) B bo J (h++ [dS.mk 0 (first+k) m (.slice none 0 0) (.slice E (1:Nat) I)]) (ys++gz first l tabs k++hP (first+k) d t (m+1)) by
       refine⟨by rw[al M];rfl,by rw[Nw];exact d0,?_⟩;rw[R,U.2];have p:=W.ps;rw[R,U.1,OJ] at p;refine dy.snoc (p.step λg u _ a=>c9.keep g u 65 (0,0) a zd zd) ⟨rfl,rfl,rfl,rfl,?_⟩;refine cj (aZ f1 λg a=>?_) ?_
       ·obtain⟨-,-,u,n⟩:=ar f1 a
        exact c9.keep g u 65 (0,0) n zd zd
       ·omega)
      have j5:=zh (show Ch (nR bo v) w (w7.setCell ⟨bo,0,none⟩ J) by
       refine aP (fQ (f2.trans (Ch.fresh K)) Z (λj f7=>?_)) (.inl (.inl rfl));rcases a3.out with e|e
       ·exact .inl (.inr (by rw[<-e];exact f7))
       ·exact .inr (e j f7))
      have j6:=a3.trans f5 (by have:=f2.size;have:=K.size;rw[<-a7];omega);have m0:=ad (o:=0) M;have m1:w7.cell? ⟨bo,0,none⟩=some q:=by rw[NA w7 _ _ _ _ _ M];rfl
      have m2:=aa M
      have j7:=zh (show(h++ [dS.mk 0 (first+k) m (.slice none 0 0) (.slice E (1:Nat) I)]).length<=s.length+(hP (first+k) d t (m+1)).length by
       have p:=a2.out;rw[R,U.1] at p;rw[R,U.2];simp at p⊢;omega)
      obtain⟨m3,m4,rfl⟩:=az d0;clear c5 f4 f5 a7 K Y Z f6 c7 c8 c9 d0 M j2;go_wp2;go_roundw
      case rel=>exact⟨m+1,_,_,c3,by go_num,j4,j5,j3,j7,j6⟩
      case measure=>simp[intOf];omega
     ·have f8:=zh (FZ (first+k) d t m f0)
      clear f0 e6;go_wp2;go_roundw
      case rel=>exact⟨m+1,q,h,c3,by go_num,zh (by rw[f8];exact c1),c2,a1,zh (by rw[f8];exact a2),a3⟩
      case measure=>simp[intOf];omega
    ·obtain rfl:m=d:=zo
     have f9:=zh (CZ (first+k) m t m zo rfl);go_wp2;go_roundw
     case rel=>exact⟨k+1,q,h,b1,by go_num,zh (by rw[lG,<-b3,<-b5,g4,<-f9,<-NX];exact c1),c2,zh (by
      have p:=a2.out;have a6:=d1.out;have m5:(hP (first+k) m t m).length<=1:=by rw[f9];unfold rk;split<;>simp
      omega),a3⟩
     case measure=>simp[intOf];omega
  ·obtain rfl:k=N:=zo
   go_wp2
   go_end0
   exact⟨rfl,⟨v',s,a9,d2⟩,b0⟩
end
def iU(l:List ah):Prop:= ∀i,i<l.length->1<=(l.getD i ah.zero).shards/\(l.getD i ah.zero).shards<=8
def cA(S:au):List cx:=gz 0 S.τ.r.l S.τ.tabs S.τ.r.l.length++(match S.sh with
 |none=> []
 |some σ=>gz 5 σ.P.l σ.tabs σ.P.l.length)
def IL(w:Qm)(ys:List cx)(e:Qq)(w':Qm):Prop:=
 ∃v L,e= .returned v/\Qs (w'.ownsRow w.heap.size 340 7 v L.length (L.flatMap dS.cells))/\Qs (dy w' w.heap.size L ys)/\Qs (Qr w.heap.size w w')
structure au.full(S:au):Prop where
 sh:iU S.τ.r.l
 tk: ∀o∈S.τ.tabs,rS o
 sh2: ∀σ∈S.sh,iU σ.P.l/\ ∀o∈σ.tabs,rS o
section
variable{w w' w1:Qm}{b:SB}{S:au}{v:Qn}{bo B E t s:Nat}{tv fv lv sv:Qn}{ps:List bF}{τ:dJ}{σ:el}
def Ga{n k:Nat}(i:Sl B E v n)(j:n≠0)(d:aD v k):B<=k/\k<E:=by
 cases v with
 |slice a m c=>
  cases a with
  |none=>exact d.elim
  |some a=>
   obtain⟨f,g,h⟩:=a;obtain⟨-,e⟩:=d;have e:f=k:=e;rw[<-e];exact i j f g h m c rfl
 |_=>exact d.elim
def Gb{F:Nat->Prop}(d:Ch (nR bo v) w w')(e: ∀k,B<=k->k<E-> ¬nR bo v k)(f:E<=w.heap.size): ∀k,B<=k->k<E->w'.heap[k]?=w.heap[k]?:=λk a c=>d.block k zo (e k a c)
def IM(a:hY w B E t τ tv fv lv ps)(e:τ.tabs.length<=100)(f: ∀k,B<=k->k<E-> ¬nR bo v k):yP w 15 (.pointer (some ⟨t,0,none⟩)) bo v τ.r.l.length τ.tabs:=by
 refine⟨hE func15 zk zk,λi d w' c=>?_⟩;exact gG (a.step c.size (Gb (F:=λ_=>True) c f a.iv.2)) i (by rw[a.len];exact d) e
def IN(a:mS w B E s σ tv sv lv ps)(e:σ.tabs.length<=100)(f: ∀k,B<=k->k<E-> ¬nR bo v k):yP w 333 (.pointer (some ⟨s,0,none⟩)) bo v σ.P.l.length σ.tabs:=by
 refine⟨hE func333 zk zk,λi d w' c=>?_⟩;exact up (a.step c.size (Gb (F:=λ_=>True) c f a.iv.2)) i (by rw[a.len];exact d) e
def wz(H:Qs (bJ w b S))(h:Qs S.ok)(E:Qs S.full):Qo zP 256 #[b.s] w (IL w (cA S)):=by
 have I:=zh (aN h.pol).1;have Z:=zh (h.len H);obtain⟨bo,d⟩:=zy w.heap.size;go_enter func256,ntmps256;go_wp2_with fail;refine(hJ (H.below ze) h).mono ?_;rintro e J ⟨t,rfl,a0,K⟩;have v:=zh (ab (Nu w _) K);have o:=ai (ak w _) K;have a1:=H.below o;obtain⟨tv,fv,lv,ps,hq⟩:=a0;have p:=zh hq;obtain⟨c0,a2,L,a3,M⟩:=eB hq.blk;have a4:=aa hq.blk;rw[<-d] at v⊢;have c2:=o.size;have c3:=aa v;have a5:=zh (show uw J bo bo (.slice none 0 0) [] [] from⟨v,World.ownsRow_nil _ _ _ _,trivial⟩);have a6:bo<(w.alloc (.cells #[z0] 333)).heap.size:=by have:=d.out;simp;omega
 have N:=zh (λk (c:(w.alloc (.cells #[z0] 333)).heap.size<=k) (g:k<J.heap.size)=>(show¬nR bo (.slice none 0 0) k from λe=>by rcases e with e|e;omega;cases e));clear hq a6;go_wp2_with fail
 have i:=wy (F:=15) (recv:= .pointer (some ⟨t,0,none⟩)) (first:=0) (pn:=S.τ.r.name) (tabs:=S.τ.tabs) a5 (Pd _) ⟨Ov _,zd⟩ p.tiers.1 I E.sh
  (λk a=>by
   have c:=Ga p.tiers.2 (by have:=(aN h.pol).2.1;omega) a;exact N k c.1 (by have:=p.iv;omega)) zp E.tk (IM p (by have:=Z.out;omega) (λk c g=>N k c g))
 refine i.mono ?_;rintro e O ⟨rfl,⟨P,Q,x,R⟩,y⟩;simp only[Ol] at x;have j:=zh x;have c4:=zh R;have B2:=zh (show Qr w.heap.size w O from o.trans (y.below (B:=w.heap.size) (λk a=>by rcases a with a|a;have:=d.out;omega;cases a) o.size))
 have T:=a1.ch y (λk a e=>by
  have c:=H.lt a;rcases e with e|e
  ·have:=d.out;omega
  ·cases e)
 clear i y R x c0 a2 L a3 M a4;go_wp2_with fail;cases hsh:S.sh with
 |none=>
  have A:=zh (show cA S=gz 0 S.τ.r.l S.τ.tabs S.τ.r.l.length by unfold cA;rw[hsh];simp);refine zb (oG T hsh) λq l=>?_
  have f:=j.below l;have r:=ai B2 l;have a7:q.cell? ⟨bo,0,none⟩=some P:=by rw[NA q _ _ _ _ _ f.blk];rfl
  have c5:=aa f.blk;obtain⟨c6,L,rfl⟩:=az f.own;clear hsh;go_wp2;go_ret;exact⟨_,Q,rfl,cj f.own (by have:=d.out;omega),by rw[A,<-d];exact f.ps,r⟩
 |some σ=>
  have A:=zh (show cA S=gz 0 S.τ.r.l S.τ.tabs S.τ.r.l.length++gz 5 σ.P.l σ.tabs σ.P.l.length by unfold cA;rw[hsh]);have U:=zh (E.sh2 σ hsh);have C:=h.sh σ hsh;refine(kc T h hsh).mono ?_;rintro e q ⟨s,rfl,a8,l⟩;have f:=j.below l;have r:=ai B2 l;have V:=j.own
  have W:=zh (λk (c:O.heap.size<=k) (g:k<q.heap.size)=>(show¬nR bo P k from λe=>by
   rcases e with e|e
   ·have:=aa j.blk;omega
   ·have:=(ar V e).2.1;omega))
  obtain⟨c7,c8,c9,d0,u⟩:=a8;have m:=zh u
  have a9:=zh (show Q.length<=10 by
   have c:=j.ps.len;have g:=th 0 S.τ.r.l S.τ.tabs S.τ.r.l.length;have:=I.out;omega)
  obtain⟨b0,b1,b2,b3,b4,b5⟩:=di u.blk;have b6:=aa u.blk;clear hsh u V;go_wp2_with fail
  have i:=wy (F:=333) (recv:= .pointer (some ⟨s,0,none⟩)) (first:=5) (pn:=σ.P.name) (tabs:=σ.tabs) f (Pd _) ⟨zd,Ov _⟩ m.tiers.1 (aN C.pol).1 U.1
   (λk a=>by
    have c:=Ga m.tiers.2 (by have:=(aN C.pol).2.1;omega) a;exact W k c.1 (by have:=m.iv;omega)) a9 U.2 (IN m (by have:=m.len;have:=(aN C.pol).1;omega) (λk c g=>W k c g))
  refine i.mono ?_;rintro e D ⟨rfl,⟨b7,b8,n,b9⟩,X⟩;have Y:=zh n
  have c1:=zh (show Qr w.heap.size w D from r.trans (X.below (B:=w.heap.size) (λk a=>by
   rcases a with a|a
   ·have:=d.out;omega
   ·have:=(ar f.own a).1;have:=d.out;omega) r.size))
  have a7:D.cell? ⟨bo,0,none⟩=some b7:=by rw[NA D _ _ _ _ _ n.blk];rfl
  have d1:=aa n.blk;obtain⟨d2,M,rfl⟩:=az n.own;clear i X b9 n b0 b1 b2 b3 b4 b5 b6;go_wp2;go_ret;exact⟨_,b8,rfl,cj Y.own (by have:=d.out;omega),by rw[A,<-d];exact Y.ps,c1⟩
end
structure aA where
 id:Int
 tier:Int
 shard:Int
 blk:Int
 r:ay
 bv:Qn
 rv:Qn
def aA.val(p:aA):Qn:= .agg #[.int .u64 p.id,(p.tier:Int),(p.shard:Int),(),(1:Int),p.bv,p.rv]
def aA.key(p:aA):Int×Int:=(p.tier,p.shard)
def rl:Option (Nat×LV)->Qn
 |none=> .pointer none
 |some x=> .pointer (some ⟨x.1,0,none⟩)
structure aM where
 dp:Nat
 B:Nat
 c:Nat
 d:DV
 gen:Int
 id:Int
 ps:List aA
 pm:Nat
 bk:Nat
 V:dn
 lg:Option (Nat×LV)
 bad:Int
def jC(S:aM):List Qn:= [.int .i64 90,.int .i64 2,.int .i64 18,.int .i64 28,.int .i64 10,.int .i64 38,.int .i64 26,.pointer (some ⟨S.dp,0,none⟩),.int .u64 S.gen,.int .u64 S.id,.map (some S.pm),.pointer (some ⟨S.bk,0,none⟩),rl S.lg,.int .i64 S.bad]
def aM.rowb(S:aM)(k:Nat):Prop:= ∃p∈S.ps,aD p.rv k\/aD p.bv k
def aM.still(S:aM)(k:Nat):Prop:=k=S.pm\/S.rowb k
def aM.logb(S:aM)(k:Nat):Prop:= ∃x∈S.lg,k=x.1
def aM.ext(S:aM)(q k:Nat):Prop:=k=q\/S.V.own S.bk k\/S.still k\/S.logb k
def aM.fr(S:aM)(w:Qm)(q k:Nat):Prop:=k=q\/cL w S.dp k\/S.V.own S.bk k\/S.logb k
structure bD(w:Qm)(q:Nat)(rest:List Qn)(T:Qp)(S:aM):Prop where
 blk:w.heap[q]?=some (.cells (jC S++rest).toArray T)
 disk:bg w S.B S.dp S.c S.d
 keep:S.d.keep= []
 led:cq w S.bk S.V
 mp:bL zP 343 dR aA.val w S.pm (S.ps.map λp=>(p.key,p))
 rows: ∀p∈S.ps,aB 7 ay.cells w p.rv [p.r]/\aE w p.bv [p.blk]
 log: ∀x∈S.lg,w.heap[x.1]?=some (.cells #[.pointer (some ⟨S.dp,0,none⟩),.int .i64 x.2.frm,.int .i64 x.2.n,.int .u64 x.2.gen,.int .i64 x.2.used,.int .i64 x.2.recs,.int .i64 x.2.bad] 220)
 nd: ∀k,S.ext q k-> ¬cL w S.dp k
 nq: ∀k,S.V.own S.bk k\/S.still k\/S.logb k->k≠q
 nl: ∀k,S.still k\/S.logb k-> ¬S.V.own S.bk k
 ng: ∀k,S.logb k-> ¬S.still k
section
variable{w w' w1:Qm}{q:Nat}{rest:List Qn}{T:Qp}{S S' S1:aM}{F:Nat->Prop}
def bg.ch_{B p c:Nat}{d:DV}(a:bg w B p c d)(j:d.keep= [])(s:Ch F w w')(x: ∀k,cL w p k-> ¬F k):bg w' B p c d/\ ∀k,cL w' p k↔cL w p k:=by
 obtain⟨l,m,f,h,a⟩:=a;have e:=a.own_iff;obtain⟨n,t,o⟩:=a.lasts;have i: ∀k,cL w p k->k<w.heap.size->w'.heap[k]?=w.heap[k]?:=λk j u=>s.block k u (x k j)
 have q:DP w' B p c d l m f h:=⟨(i p ((e p).2 (.inl rfl)) a.lt).trans a.blk,a.keep.step s.size (λ_ _ _ _ _ _ v=>absurd j v),a.now.step (i f ((e f).2 (.inr (.inl rfl))) a.now.lt),⟨n,t,o.step (i h ((e h).2 (.inr (.inr (.inl rfl)))) o.lt)⟩,
  aZ a.waits (λg r=>i g ((e g).2 (.inr (.inr (.inr r)))) (ar a.waits r).2.1),a.ne,a.ge,a.ok⟩
 exact⟨⟨l,m,f,h,q⟩,λk=>(q.own_iff k).trans (e k).symm⟩
def bg.own_lt{B p c k:Nat}{d:DV}(a:bg w B p c d)(g:cL w p k):k<w.heap.size:=by
 obtain⟨h,i,j,l,a⟩:=a;obtain⟨n,m,f⟩:=a.lasts;rcases(a.own_iff k).1 g with e|e|e|e
 ·rw[e];exact a.lt
 ·rw[e];exact a.now.lt
 ·rw[e];exact f.lt
 ·exact(ar a.waits e).2.1
def jl{k:Nat}{v:Qn}{r:ay}(f:aB 7 ay.cells w v [r])(g:aD v k):k<w.heap.size:=by
 obtain⟨a,c,rfl,-,d⟩:=f;obtain⟨b,o,rfl,h,-⟩:=d zm;obtain⟨-,e⟩:=g;have e:b=k:=e;omega
def iV{k:Nat}{v:Qn}{l:List Int}(j:aE w v l)(d:aD v k):k<w.heap.size:=by
 obtain⟨a,c,rfl,-,-,f⟩:=j;cases a with
 |none=>exact d.elim
 |some a=>
  obtain⟨g,e⟩:=d;obtain⟨b,o,h,m,-⟩:=f (λe=>g (by rw[e];rfl));have i:=Oa h;subst i;have e:b=k:=e;omega
def bD.lt(c:bD w q rest T S){k:Nat}(a:S.ext q k):k<w.heap.size:=by
 rcases a with rfl|a|(rfl|⟨p,d,a|a⟩)|⟨x,e,rfl⟩
 ·exact aa c.blk
 ·exact c.led.lt k a
 ·exact c.mp.lt
 ·exact jl (c.rows p d).1 a
 ·exact iV (c.rows p d).2 a
 ·exact aa (c.log x e)
def bD.ch(a:bD w q rest T S)(g:Ch F w w')(h: ∀k,S.ext q k\/cL w S.dp k-> ¬F k):bD w' q rest T S:=by
 obtain⟨j,l⟩:=a.disk.ch_ a.keep g (λk c=>h k (.inr c));have d: ∀k,S.ext q k->w'.heap[k]?=w.heap[k]?:=λk c=>g.block k (a.lt c) (h k (.inl c))
 refine⟨(d q (.inl rfl)).trans a.blk,j,a.keep,a.led.step λk c=>d k (.inr (.inl c)),a.mp.step (d _ (.inr (.inr (.inl (.inl rfl))))),λp f=>⟨(a.rows p f).1.ch g λk c=>h k (.inl (.inr (.inr (.inl (.inr ⟨p,f,.inl c⟩))))),(a.rows p f).2.ch_ g λk c=>h k (.inl (.inr (.inr (.inl (.inr ⟨p,f,.inr c⟩)))))⟩,
  λx i=>(d x.1 (.inr (.inr (.inr ⟨x,i,rfl⟩)))).trans (a.log x i),λk c e=>a.nd k c ((l k).1 e),a.nq,a.nl,a.ng⟩
def bD.below(a:bD w q rest T S)(c:Qr w.heap.size w w'):bD w' q rest T S:=a.ch (F:=λ_=>False) (Ch.fresh c) λ_ _ e=>e
def bD.own_below(a:bD w q rest T S)(c:Qr w.heap.size w w')(k:Nat):cL w' S.dp k↔cL w S.dp k:=(a.disk.ch_ (F:=λ_=>False) a.keep (Ch.fresh c) λ_ _ e=>e).2 k
structure bz(w:Qm)(q:Nat)(rest:List Qn)(T:Qp)(S:aM)(w':Qm)(S':aM):Prop where
 at_:bD w' q rest T S'
 own: ∀k,S'.fr w' q k->S.fr w q k\/w.heap.size<=k
 ch:Ch (S.fr w q) w w'
def bz.trans(a:bz w q rest T S w1 S1)(c:bz w1 q rest T S1 w' S'):bz w q rest T S w' S':=by
 refine⟨c.at_,λk e=>?_,?_⟩
 ·rcases c.own k e with d|d
  ·exact a.own k d
  ·exact .inr (Nq a.ch.size d)
 ·exact⟨c.ch.os.trans a.ch.os,c.ch.tape.trans a.ch.tape,c.ch.output.trans a.ch.output,Nq a.ch.size c.ch.size,λk e f=>(c.ch.block k (No e a.ch.size) λd=>by
   rcases a.own k d with g|g
   ·exact f g
   ·omega).trans (a.ch.block k e f)⟩
def bz.refl(d:bD w q rest T S)(c:Qr w.heap.size w w'):bz w q rest T S w' S:=
 ⟨d.below c,λk a=> .inl (by
  rcases a with a|a|a
  ·exact .inl a
  ·exact .inr (.inl ((d.own_below c k).1 a))
  ·exact .inr (.inr a)),Ch.fresh c⟩
def bz.fresh(a:bz w q rest T S w1 S1)(c:Qr w1.heap.size w1 w'):bz w q rest T S w' S1:=a.trans (.refl a.at_ c)
def bD.disk'{c':Nat}{d':DV}(f:bD w q rest T S)(n:bg w' S.B S.dp c' d')(a:d'.keep= [])(g:cS S.dp w w'):bz w q rest T S w' {S with c:=c',d:=d'}:=by
 have j:Ch (cL w S.dp) w w':=⟨g.os,g.tape,g.output,g.size,λk a m=>g.block k a m⟩;have h: ∀k,S.ext q k->w'.heap[k]?=w.heap[k]?:=λk a=>g.block k (f.lt a) (f.nd k a)
 refine⟨⟨(h q (.inl rfl)).trans f.blk,n,a,f.led.step λk a=>h k (.inr (.inl a)),f.mp.step (h _ (.inr (.inr (.inl (.inl rfl))))),λp i=>⟨(f.rows p i).1.ch j λk a=>f.nd k (.inr (.inr (.inl (.inr ⟨p,i,.inl a⟩)))),(f.rows p i).2.ch_ j λk a=>f.nd k (.inr (.inr (.inl (.inr ⟨p,i,.inr a⟩))))⟩,
  λx l=>(h x.1 (.inr (.inr (.inr ⟨x,l,rfl⟩)))).trans (f.log x l),λk a e=>?_,f.nq,f.nl,f.ng⟩,λk a=>?_,j.mono λk _ a=> .inr (.inl a)⟩
 ·rcases g.own k e with e|e
  ·exact f.nd k a e
  ·have:=f.lt a;omega
 ·rcases a with a|a|a
  ·exact .inl (.inl a)
  ·exact(g.own k a).imp (λe=> .inr (.inl e)) id
  ·exact .inl (.inr (.inr a))
def bD.led'{V':dn}(c:bD w q rest T S)(j:fA w S.bk S.V w' V'):bz w q rest T S w' {S with V:=V'}:=by
 have f:=j.ch;obtain⟨n,l⟩:=c.disk.ch_ c.keep f (λk a e=>c.nd k (.inr (.inl e)) a)
 have i: ∀k,k=q\/S.still k\/S.logb k->w'.heap[k]?=w.heap[k]?:=λk a=>f.block k (c.lt (by
  rcases a with a|a|a
  ·exact .inl a
  ·exact .inr (.inr (.inl a))
  ·exact .inr (.inr (.inr a)))) (λe=>by
   rcases a with a|a
   ·exact c.nq k (.inl e) a
   ·exact c.nl k a e)
 have g: ∀k,V'.own S.bk k->S.V.own S.bk k\/w.heap.size<=k:=j.own
 refine⟨⟨(i q (.inl rfl)).trans c.blk,n,c.keep,j.at_,c.mp.step (i _ (.inr (.inl (.inl rfl)))),λp h=>⟨(c.rows p h).1.ch f λk a e=>c.nl k (.inl (.inr ⟨p,h,.inl a⟩)) e,(c.rows p h).2.ch_ f λk a e=>c.nl k (.inl (.inr ⟨p,h,.inr a⟩)) e⟩,
  λx m=>(i x.1 (.inr (.inr ⟨x,m,rfl⟩))).trans (c.log x m),λk a e=>?_,λk a=>?_,λk a e=>?_,c.ng⟩,λk a=>?_,f.mono λk _ a=> .inr (.inr (.inl a))⟩
 ·have e:=(l k).1 e
  rcases a with a|a|a
  ·exact c.nd k (.inl a) e
  ·rcases g k a with d|d
   ·exact c.nd k (.inr (.inl d)) e
   ·have:=c.disk.own_lt e;omega
  ·exact c.nd k (.inr (.inr a)) e
 ·rcases a with a|a
  ·rcases g k a with d|d
   ·exact c.nq k (.inl d)
   ·have:=c.lt (k:=q) (.inl rfl);omega
  ·exact c.nq k (.inr a)
 ·rcases g k e with d|d
  ·exact c.nl k a d
  ·have:=c.lt (k:=k) (.inr (.inr a));omega
 ·rcases a with a|a|a|a
  ·exact .inl (.inl a)
  ·exact .inl (.inr (.inl ((l k).1 a)))
  ·exact(g k a).imp (λe=> .inr (.inr (.inl e))) id
  ·exact .inl (.inr (.inr (.inr a)))
def bD.setc{i:Nat}{y:Qn}(c:bD w q rest T S)(gen id bad:Int)(m:((jC S++rest).set i y)=jC {S with gen:=gen,id:=id,bad:=bad}++rest):bz w q rest T S (w.setCell ⟨q,i,none⟩ y) {S with gen:=gen,id:=id,bad:=bad}:=by
 have d:Ch (·=q) w (w.setCell ⟨q,i,none⟩ y):=aP (Ch.refl _ _) (.inl rfl);obtain⟨l,h⟩:=c.disk.ch_ c.keep d (λk a e=>c.nd k (.inl e) a);have g: ∀k,k≠q->(w.setCell ⟨q,i,none⟩ y).heap[k]?=w.heap[k]?:=λk a=>af _ a
 refine⟨⟨by rw[al c.blk,NN,m],l,c.keep,c.led.step λk a=>g k (c.nq k (.inl a)),c.mp.step (g _ (c.nq _ (.inr (.inl (.inl rfl))))),λp f=>⟨(c.rows p f).1.ch d λk a=>c.nq k (.inr (.inl (.inr ⟨p,f,.inl a⟩))),(c.rows p f).2.ch_ d λk a=>c.nq k (.inr (.inl (.inr ⟨p,f,.inr a⟩)))⟩,
  λx j=>(g x.1 (c.nq _ (.inr (.inr ⟨x,j,rfl⟩)))).trans (c.log x j),λk a e=>c.nd k a ((h k).1 e),c.nq,c.nl,c.ng⟩,λk a=> .inl ?_,d.mono λk _ a=> .inl a⟩
 rcases a with a|a|a
 ·exact .inl a
 ·exact .inr (.inl ((h k).1 a))
 ·exact .inr (.inr a)
end
section
variable{w w' w1:Qm}{q:Nat}{rest:List Qn}{T:Qp}{S S' S1:aM}{F:Nat->Prop}
def bD.cells(a:bD w q rest T S):w.cell? ⟨q,0,none⟩=some (.int .i64 90)/\w.cell? ⟨q,1,none⟩=some (.int .i64 2)/\w.cell? ⟨q,2,none⟩=some (.int .i64 18)/\w.cell? ⟨q,3,none⟩=some (.int .i64 28)/\w.cell? ⟨q,4,none⟩=some (.int .i64 10)/\w.cell? ⟨q,5,none⟩=some (.int .i64 38)/\w.cell? ⟨q,6,none⟩=some (.int .i64 26)/\
 w.cell? ⟨q,7,none⟩=some (.pointer (some ⟨S.dp,0,none⟩))/\w.cell? ⟨q,8,none⟩=some (.int .u64 S.gen)/\w.cell? ⟨q,9,none⟩=some (.int .u64 S.id)/\w.cell? ⟨q,10,none⟩=some (.map (some S.pm))/\w.cell? ⟨q,11,none⟩=some (.pointer (some ⟨S.bk,0,none⟩))/\w.cell? ⟨q,12,none⟩=some (rl S.lg)/\w.cell? ⟨q,13,none⟩=some (.int .i64 S.bad):=by
 refine⟨?_,?_,?_,?_,?_,?_,?_,?_,?_,?_,?_,?_,?_,?_⟩<;>(rw[NA w q _ _ _ _ a.blk];rfl)
def aM.fr_ext{k:Nat}(a:S.fr w q k):S.ext q k\/cL w S.dp k:=by
 rcases a with a|a|a|a
 ·exact .inl (.inl a)
 ·exact .inr a
 ·exact .inl (.inr (.inl a))
 ·exact .inl (.inr (.inr (.inr a)))
def aM.ext_fr{k:Nat}(a:S.ext q k\/cL w S.dp k):S.fr w q k\/S.still k:=by
 rcases a with(a|a|a|a)|a
 ·exact .inl (.inl a)
 ·exact .inl (.inr (.inr (.inl a)))
 ·exact .inr a
 ·exact .inl (.inr (.inr (.inr a)))
 ·exact .inl (.inr (.inl a))
def bD.fr_lt(a:bD w q rest T S){k:Nat}(c:S.fr w q k):k<w.heap.size:=by
 rcases aM.fr_ext c with e|e
 ·exact a.lt e
 ·exact a.disk.own_lt e
def bz.out_{k:Nat}(a:bz w q rest T S w' S')(d:k<w.heap.size)(c: ¬S.fr w q k):w'.heap[k]?=w.heap[k]?/\ ¬S'.fr w' q k:=
 ⟨a.ch.block k d c,λe=>by
  rcases a.own k e with e|e
  ·exact c e
  ·omega⟩
def bz.aside(a:bz w q rest T S w1 S1)(d:Ch F w1 w')(f: ∀k,F k->w.heap.size<=k/\ ¬S1.fr w1 q k/\ ¬S1.still k):bz w q rest T S w' S1:=by
 have g: ∀k,S1.ext q k\/cL w1 S1.dp k-> ¬F k:=λk c h=>by
  rcases aM.ext_fr c with e|e
  ·exact(f k h).2.1 e
  ·exact(f k h).2.2 e
 have i:=(a.at_.disk.ch_ a.at_.keep d λk c=>g k (.inr c)).2;refine⟨a.at_.ch d g,λk c=>a.own k ?_,?_⟩
 ·rcases c with e|e|e
  ·exact .inl e
  ·exact .inr (.inl ((i k).1 e))
  ·exact .inr (.inr e)
 ·exact⟨d.os.trans a.ch.os,d.tape.trans a.ch.tape,d.output.trans a.ch.output,Nq a.ch.size d.size,λk c j=>(d.block k (No c a.ch.size) λe=>by
   have:=(f k e).1;omega).trans (a.ch.block k c j)⟩
def dT{w:Qm}{b:Nat}{T:Qp}{a c d e f g h:Qn}(i:w.heap[b]?=some (.cells #[a,c,d,e,f,g,h] T)):
 w.cell? ⟨b,0,none⟩=some a/\w.cell? ⟨b,1,none⟩=some c/\w.cell? ⟨b,2,none⟩=some d/\w.cell? ⟨b,3,none⟩=some e/\w.cell? ⟨b,4,none⟩=some f/\w.cell? ⟨b,5,none⟩=some g/\w.cell? ⟨b,6,none⟩=some h:=by
 refine⟨?_,?_,?_,?_,?_,?_,?_⟩<;>(rw[NA w b _ _ _ _ i];rfl)
def Lt(w:Qm)(q:Nat)(rest:List Qn)(T:Qp)(S:aM)(tier shard k:Int)(f:Qn)(d':DV)(e:Qq)(w':Qm):Prop:=
 ∃(a:Qn) (V':dn),e= .returned (.tuple #[.agg #[.int .u64 (S.id+1),tier,shard,(),(1:Int),a,f],()])/\bz w q rest T S w' {S with id:=S.id+1,V:=V',c:=S.c+1,d:=d'}/\V'.pure=oH (dj S.V.pure bA 1) bA [k]/\aE w' a [k]/\(∀j,aD a j->w.heap.size<=j/\ ¬aM.fr {S with id:=S.id+1,V:=V',c:=S.c+1,d:=d'} w' q j)
def yQ{tier shard k:Int}{d9:Qn}{r:ay}(H:Qs (bD w q rest T S))(k9:Qs (aB 7 ay.cells w d9 [r]))(r5:Qs (∀j,aD d9 j-> ¬S.fr w q j))(r6:Qs r.good)(r7:0<=S.id/\S.id<=1000000)(l0:fJ (S.id+1) tier shard)
 (l1:S.V.pure.ok) (B:1<=S.V.pure.open_) (l2:(dj S.V.pure bA 1).ok) (l3:0<=(dk S.V.pure.2 bA).1) (l4:(1:Int)<=S.V.pure.1.n-S.V.pure.1.used.length) (N:Nat) (r8:N<=4096) (E:(cb S.V.pure.1 N).take 1= [k])
 (l5:aQ k) (h6:(S.d.write k (aO (fs (S.id+1) tier shard 0 1 [r]))).2=0) (h7:(S.d.write k (aO (fs (S.id+1) tier shard 0 1 [r]))).1.keep= []) (l6:0<=S.d.writes/\S.d.writes<=1000000000000) (l7:S.c+1<=1000000) (h8:(aO (fs (S.id+1) tier shard 0 1 [r])).size<=9223372036854775807):
 Qo zP 258 #[q,.agg #[.int .u64 0,tier,shard,(),(1:Int),z0,d9]] w (Lt w q rest T S tier shard k d9 (S.d.write k (aO (fs (S.id+1) tier shard 0 1 [r]))).1):=by
 obtain⟨e0,h9⟩:=zy (aO (fs (S.id+1) tier shard 0 1 [r]));rw[<-h9] at h6 h7 h8⊢;have l8:=zh h8;have l9:=zh l0;have b2:=zh (And.intro l1 (And.intro B (And.intro l2 (And.intro l3 l4))));have i0:=zh E;have i1:=zh l5;have i2:=zh (And.intro h6 h7);have m0:=zh l6;have m1:=zh l7;obtain⟨O,rc,rfl,-,-⟩:=id k9;obtain⟨m,P⟩:=zy S.id;rw[<-P] at r7;obtain⟨Q,R,U,W,X,Y,Z,a0,a1,I,a2,a3,a4,a5⟩:=H.cells;rw[<-P] at I;have m2:=H.lt (k:=q) (.inl rfl);have m3:=λo=>ad (o:=o) H.blk
 clear l0 l1 B l2 l3 l4 E h6 h7 l6 l7 l5 h8;go_enter func258,ntmps258;go_wp2_with fail;obtain⟨A,b9⟩:=zx (w.setCell ⟨q,9,none⟩ (.int .u64 (m+1)));rw[<-b9];have c1:=zh (show bz w q rest T S A {S with gen:=S.gen,id:=m+1,bad:=S.bad} by rw[b9];exact H.setc S.gen (m+1) S.bad rfl);obtain⟨S1,e1⟩:=zx ({S with gen:=S.gen,id:=m+1,bad:=S.bad}:aM);rw[<-e1] at c1;have b3:=zh e1;have i3:A.heap.size=w.heap.size:=by rw[b9];simp
 obtain⟨f,b4⟩:=zx w.heap.size;obtain⟨a6,a7⟩:=zx ((A.alloc (.cells #[.int .u64 (m+1),tier,shard,(),(1:Int),z0,.slice O (1:Nat) rc] 340)).alloc (.cells #[.int .u64 0,(),(),(),(),z0,z0] 340));have e2:Qr A.heap.size A a6:=by rw[a7];exact(ak A _).trans (ze.mono zm)
 have m4:=zh (show a6.heap[f]?=some (.cells #[.int .u64 (m+1),tier,shard,(),(1:Int),z0,.slice O (1:Nat) rc] 340) by rw[a7,b4,<-i3];exact ab (Nu A _) ze);have m5:=zh (show a6.heap[f+1]?=some (.cells #[.int .u64 0,(),(),(),(),z0,z0] 340) by rw[a7];exact ag zu);have e3:=c1.fresh e2;have b5:=zh b4;have i4:a6.heap.size=f+2:=by rw[a7];simp;omega
 have m6:=zh (show∀j,f<=j-> ¬(S1.ext q j\/cL a6 S1.dp j) by
  intro j g e
  have B:S.ext q j\/cL A S1.dp j:=by
   rcases e with e|e
   ·left;rw[b3] at e;exact e
   ·right;exact(c1.at_.own_below e2 j).1 e
  rcases B with B|B
  ·have:=H.lt B;omega
  ·have:=c1.at_.disk.own_lt B;omega)
 rw[<-a7];have i5:w.heap.size+1=f+1:=by rw[b4]
 rw[i5,<-b4];have e4:=zh i4;clear Q R U W X Y Z a0 a1 I a2 a3 a4 a5 b9 e1 b4 a7 e2 m2 m3 i4 i3 i5;have i6:=vP (id:=m+1) a6 (k9.ch e3.ch r5) r6 (by rw[P];exact l9);refine i6.mono ?_;clear i6;rintro e C ⟨r9,rfl,e5,J⟩;have s0:=zh e5;obtain⟨K,s1,rfl,s2,c2,s3,s4,-,i7⟩:=dr e5 zm;have c3:=i7 0 _ rfl;rw[P,<-h9] at c3;have s5:=zh c3;have a8:=e3.fresh J;have m7:=zh (ab m4 J);have m8:=zh (ab m5 J);have c4:=zh (show∀j,f<=j-> ¬S1.fr C q j from λj g e=>m6 j g ((aM.fr_ext e).imp id λe=>(e3.at_.own_below J j).1 e));have t:=zh (show f+2<=C.heap.size by have:=J.size;have:=e4.out;omega);obtain⟨Q,R,U,W,X,Y,Z,a0,a1,I,a2,a3,a4,a5⟩:=a8.at_.cells;have m9:=aa a8.at_.blk;clear J e5 i7;simp only[NS] at*;go_wp2_with fail;have e6:=zh (show S1.V.pure=S.V.pure by rw[b3]);have n0:=zh (show S1.still=S.still/\S1.logb=S.logb by rw[b3];exact⟨rfl,rfl⟩);have i8:=mE a8.at_.led (by rw[e6];exact b2.1) bA ⟨zd,zd⟩ 1 (by rw[e6];have:=b2.2.1;omega);refine i8.mono ?_;clear i8;rintro e b6 ⟨n1,rfl,e7,e8⟩;rw[e6] at e8;have n2:=zh e8;have u:=zh (a8.at_.led' e7);obtain⟨u,c5⟩:=zx ({S1 with V:=n1}:aM);have n:=zh (a8.at_.led' e7);rw[<-c5] at n;have x:=a8.trans n;have e9:=zh c5;have n3:=t.out;have c6:=zh ((n.out_ (k:=f) zo (c4 f zl)).1.trans m7);have n4:=zh ((n.out_ (k:=f+1) zo (c4 _ zo)).1.trans m8);have i9:f<=K:=by have:=e4.out;omega
 have j0:=(bT n.ch c2 (c4 K i9)).trans c3;have n5:=zh j0;have n6:K<b6.heap.size:=No c2 n.ch.size;have c7:=zh (show∀j,f<=j->j<C.heap.size-> ¬u.fr b6 q j from λj g p=>(n.out_ p (c4 j g)).2);have c8:=zh (And.intro i9 (And.intro c2 n6));have b7:=zh (show u.V.pure=dj S.V.pure bA 1/\u.bk=S1.bk by rw[c5];exact⟨n2,rfl⟩);obtain⟨Q,R,U,W,X,Y,Z,a0,a1,I,a2,a3,a4,a5⟩:=x.at_.cells;have n7:u.bk=S1.bk:=b7.2;have m9:=aa x.at_.blk;obtain⟨f0,f1,f2,f3,f4,f5,f6⟩:=dT c6;have n8:f<b6.heap.size:=aa c6;have s6:=λo=>ad (o:=o) c6
 clear c5 e7 e8 c3 c2 n3;obtain⟨j1,j2,j3⟩:=iS (V:=u.V) (s:=bA) (y:=((dk S.V.pure.2 bA).1+1,(dk S.V.pure.2 bA).2)) (by rw[b7.1];unfold dj;rw[eT]);have n9:=zh j2;have o0:=zh (show(1:Int)<=j1.left by have:=b2.2.2.2.1;have e:j1.left=_:=Of Prod.fst j3;rw[e];show(1:Int)<=(dk S.V.pure.2 bA).1+1;omega);have f7:=zh (show u.V.P=S.V.pure.1 from Of Prod.fst b7.1);clear j2 j3 n7;go_wp2_with fail;have j4:=tc x.at_.led (by rw[b7.1];exact b2.2.2.1) bA zd n9 1 N o0 (by rw[f7];exact b2.2.2.2.2) r8 (by rw[f7];have:=Of List.length i0;simp at this;omega);refine j4.mono ?_;clear j4;rintro e L ⟨f8,s7,rfl,f9,g0,c9,j5⟩;rw[f7,i0] at g0 c9;have o1:=zh g0;obtain⟨l,d0⟩:=zx ({u with V:=f8}:aM);have D:=zh (x.at_.led' f9);rw[<-d0] at D;have g1:=x.trans D;have g2:=zh d0
 have j6: ∀j,b6.heap.size<=j-> ¬l.fr L q j:=λj g e=>by
  have o2:u.fr b6 q j:=by
   rw[d0] at e;rcases e with e|e|e|e
   ·exact .inl e
   ·exact .inr (.inl ((x.at_.disk.ch_ x.at_.keep f9.ch (λk E e=>x.at_.nd k (.inr (.inl e)) E)).2 j|>.1 e))
   ·exact .inr (.inr (.inl (j5 j e)))
   ·exact .inr (.inr (.inr e))
  have:=x.at_.fr_lt o2;omega
 obtain⟨i,b8,rfl,o3,s8,s9,t0,-,j7⟩:=dr c9 zm;have o4:=j7 0 _ rfl;have o5:=zh (ei c9 (by simp;exact i1));have o6:=zh (j6 i o3);have o7:=n.ch.size;have o8:=t.out;have d1:=zh ((D.out_ (k:=f) n8 (c7 f zl zo)).1.trans c6);have o9:=zh ((D.out_ (k:=f+1) zo (c7 _ zo zo)).1.trans n4);have g3:=zh (show∀j,f<=j->j<C.heap.size-> ¬l.fr L q j from λj g p=>(D.out_ (No p n.ch.size) (c7 j g p)).2);have p0:=zh ((bT D.ch c8.2.2 (c7 K c8.1 c8.2.1)).trans n5);have d2:=zh (show f≠K/\f≠i/\f+1≠K/\f+1≠i/\w.heap.size<=i by have:=e4.out;have:=b5.out;refine⟨?_,?_,?_,?_,?_⟩<;>omega);have t1:f<L.heap.size:=aa d1;have t2:=λo=>ad (o:=o) d1
 obtain⟨h,d3⟩:=zy (L.setCell ⟨f,5,none⟩ (.slice (some ⟨i,0,none⟩) (1:Nat) b8));clear f9 g0 c9 j5 d0 j6 j7 o4 Q R U W X Y Z a0 a1 I a2 a3 a4 a5 f0 f1 f2 f3 f4 f5 f6 j0 o8 o7;simp only[NS] at*;obtain⟨f0,f1,f2,f3,f4,f5,f6⟩:=dT d1;go_wp2_with fail;rw[<-d3];have a9:Ch (·=f) L h:=by rw[d3];exact aP (Ch.refl _ _) (.inl rfl)
 have p1:C.heap.size<=L.heap.size:=Nq n.ch.size D.ch.size;have g4:l.still=S.still:=by rw[g2,e9];exact n0.1
 have b0:=g1.aside (F:=(·=f)) a9 (λj g=>by
  rw[g];refine⟨by have:=b5.out;omega,g3 f zl (by have:=t.out;omega),λe=>?_⟩;rw[g4] at e;have:=H.lt (k:=f) (.inr (.inr (.inl e)));have:=b5.out;omega)
 have p2:=zh (show∀j,f<=j-> ¬l.still j from λj g e=>by
  rw[g4] at e;have:=H.lt (k:=j) (.inr (.inr (.inl e)));have:=b5.out;omega)
 have g5: ∀j,l.fr h q j->l.fr L q j:=λj g=>by
  rcases g with e|e|e
  ·exact .inl e
  ·refine .inr (.inl (((g1.at_.disk.ch_ g1.at_.keep a9 (λk E e=>?_)).2 j).1 e))
   subst e;exact g3 k zl (by have:=t.out;omega) (.inr (.inl E))
  ·exact .inr (.inr e)
 have p3:=zh (show∀j,f<=j->j<C.heap.size-> ¬l.fr h q j from λj g p e=>g3 j g p (g5 j e));have p4:=zh (λe=>o6 (g5 i e));have g6:=zh (show h.heap[f]?=some (.cells #[.int .u64 (m+1),tier,shard,(),(1:Int),.slice (some ⟨i,0,none⟩) (1:Nat) b8,.slice O (1:Nat) rc] 340) by rw[d3,al d1];rfl);have j8:=zh ((a9.block (f+1) (by have:=t.out;omega) zo).trans o9);have j9:=zh ((bT a9 (No c8.2.1 p1) d2.1.symm).trans p0);have k0:=zh (o5.ch_ a9 (λj g e=>d2.2.1 (by rw[<-e];exact g.2.symm)));have d4:=zh (show l.d=S.d/\l.c=S.c/\l.dp=S.dp/\l.B=S.B by rw[g2,e9,b3];exact⟨rfl,rfl,rfl,rfl⟩);obtain⟨Q,R,U,W,X,Y,Z,a0,a1,I,a2,a3,a4,a5⟩:=b0.at_.cells;obtain⟨p5,p6,p7,p8,p9,q0,q1⟩:=dT g6;have k1:=j9.out;have q2:K<h.heap.size:=Nv _ _ k1
 have k2:h.cell? ⟨i,0,none⟩=some (.int .i64 k):=by
  obtain⟨a,c,d5,-,-,q3⟩:=k0.out;obtain⟨b,o,q4,-,q5⟩:=q3 zm;injection d5 with d5
  rw[q4] at d5;cases d5;exact q5 0 zm
 have k3:i<h.heap.size:=Nv _ _ k2;have k4:=aa g6;have q6:=aa b0.at_.blk;clear f0 f1 f2 f3 f4 f5 f6 a9 g5 g4 k1;have q7:=j9.out;refine NM 2 ?_;rw[NF];go_wp2_with fail;have g7:=gJ k e0 (b0.fresh (show Qr h.heap.size h h.drew from zr.drew)).at_.disk (by rw[d4.2.1];exact m1) i1 (by rw[d4.1];exact m0) l8;rw[d4.1,d4.2.1,i2.1] at g7;have q8:=zh g7;clear g7;refine aC (S:=(iz h)) 11 zk ?_ (λg8=>?_)
 ·(first|exact ax _|exact aj _ _ g8 J|exact aj _ _ g8 ze|exact g8)
 refine zT 0 ?_;refine zT 1 ?_;refine zT 2 ?_;refine zT 3 ?_;refine zT 4 ?_;refine zT 5 ?_;refine zT 6 ?_;refine zT 7 ?_;refine zT 8 ?_;refine zT 9 ?_;refine zT 10 ?_;refine zF ?_;go_wp2_with fail;refine q8.mono ?_;rintro e w7 ⟨rfl,k5,d6⟩;have g9:=(b0.fresh (show Qr h.heap.size h h.drew from zr.drew));have M:=zh (g9.at_.disk' k5 i2.2 d6);obtain⟨d7,b1⟩:=zx ({l with c:=S.c+1,d:=(S.d.write k e0).1}:aM);rw[<-b1] at M;have k6:=zh b1;have h0:=g9.trans M
 have h1:=zh (show∀j,f<=j->j<C.heap.size-> ¬l.fr h.drew q j from λj g p e=>p3 j g p (by
  rcases e with e|e|e
  ·exact .inl e
  ·exact .inr (.inl ((b0.at_.own_below (show Qr h.heap.size h h.drew from zr.drew) j).1 e))
  ·exact .inr (.inr e)))
 have k7:=zh ((M.out_ (k:=f) k4 (h1 f zl (by have:=t.out;omega))).1.trans g6);have d8:=zh ((M.out_ (k:=f+1) (aa j8) (h1 _ zo (by have:=t.out;omega))).1.trans j8)
 have h2: ¬l.fr h.drew q i:=λe=>p4 (by
  rcases e with e|e|e
  ·exact .inl e
  ·exact .inr (.inl ((b0.at_.own_below (show Qr h.heap.size h h.drew from zr.drew) i).1 e))
  ·exact .inr (.inr e))
 have q9:=(M.out_ (k:=i) k3 h2).2;have r0:=k0.ch_ ((Ch.fresh (F:=l.fr h.drew q) (show Qr h.heap.size h h.drew from zr.drew)).trans M.ch) (λj g e=>h2 (by rw[show i=j from g.2];exact e));obtain⟨t3,t4,t5,t6,t7,t8,t9⟩:=dT k7;obtain⟨z0,z1,z2,z3,z4,z5,z6⟩:=dT d8;have u0:=aa k7;have u1:=aa d8;have u2:=λo=>ad (o:=o) d8
 clear h2 k5 d6 g9 b1 Q R U W X Y Z a0 a1 I a2 a3 a4 a5 p5 p6 p7 p8 p9 q0 q1 k4 k3 k2 q7 q2 q6;go_wp2_with fail;rw[NF];go_wp2_with fail;obtain⟨h3,h4⟩:=zx (((((((w7.setCell ⟨f+1,0,none⟩ (.int .u64 (m+1))).setCell ⟨f+1,1,none⟩ (.int .i64 tier)).setCell ⟨f+1,2,none⟩ (.int .i64 shard)).setCell ⟨f+1,3,none⟩ (.int .i64 0)).setCell ⟨f+1,4,none⟩ (.int .i64 1)).setCell ⟨f+1,5,none⟩ (.slice (some ⟨i,0,none⟩) (1:Nat) b8)).setCell ⟨f+1,6,none⟩ (.slice O (1:Nat) rc));have r1:=zh (show h3.heap[f+1]?=some (.cells #[.int .u64 (m+1),tier,shard,(),(1:Int),.slice (some ⟨i,0,none⟩) (1:Nat) b8,.slice O (1:Nat) rc] 340) by rw[h4];exact vO _ _ _ _ _ _ _ d8)
 have h5:Ch (·=f+1) w7 h3:=by
  rw[h4]
  iterate 7 refine aP ?_ (.inl rfl)
  exact Ch.refl _ _
 have k8: ∀j,f<=j->j<C.heap.size-> ¬d7.fr w7 q j:=λj g p=>(M.out_ (No (No p (Nq n.ch.size D.ch.size)) (by rw[d3];simp)) (h1 j g p)).2
 have d6:d7.still=l.still:=by rw[k6];rfl
 have r2:=h0.aside (F:=(·=f+1)) h5 (λj g=>by
  rw[g];refine⟨by have:=b5.out;omega,k8 _ zo (by have:=t.out;omega),?_⟩;rw[d6];exact p2 _ zo)
 have r3:=r0.ch_ h5 (λj g e=>d2.2.2.2.1 (by rw[<-e];exact g.2.symm))
 have r4:=zh (show¬d7.fr h3 q i from λe=>q9 (by
  rcases e with e|e|e
  ·exact .inl e
  ·refine .inr (.inl (((h0.at_.disk.ch_ h0.at_.keep h5 (λk E e=>?_)).2 i).1 e))
   subst e;exact k8 _ zo (by have:=t.out;omega) (.inr (.inl E))
  ·exact .inr (.inr e)))
 rw[<-h4];have b1:d7={S with id:=S.id+1,V:=f8,c:=S.c+1,d:=(S.d.write k e0).1}:=by rw[k6,g2,e9,b3,P]
 refine NG (v:= .tuple #[.agg #[.int .u64 (m+1),tier,shard,(),(1:Int),.slice (some ⟨i,0,none⟩) (1:Nat) b8,.slice O (1:Nat) rc],()]) (aJ results258 _ _ _ _ _ _ _ _ rfl rfl r1 underlying340 rfl zk) rfl ⟨_,f8,by rw[P],by rw[<-b1];exact r2,by rw[o1,b7.1],r3,λj g=>?_⟩;rw[<-b1,<-show i=j from g.2];exact⟨d2.2.2.2.2,r4⟩
end
structure DG(d:DV)(n:Int):Prop where
 on:d.on=true
 armed:d.armed=false
 keep:d.keep= []
 blocks:d.blocks=90
 writes:0<=d.writes/\d.writes<=n
def pB(d:DV)(at_:Int)(f:Nat->ByteArray):Nat->DV
 |0=>d
 |k+1=>(pB d at_ f k).spent.put (at_+k) (f k)
section
variable{d:DV}{n k:Int}{s:ByteArray}
def DG.write(a:DG d n)(f:0<=k/\k<90)(c:s.size=256):d.write k s=(d.spent.put k s,0):=by
 have e:=a.blocks;unfold DV.write;rw[NB (by rw[a.on];simp),NB (by simpa using c),NB zo,NB (by rw[a.armed];simp)]
def DG.next(a:DG d n)(k:Int)(s:ByteArray):DG (d.spent.put k s) (n+1):=⟨a.on,a.armed,a.keep,a.blocks,by have:=a.writes;show 0<=d.writes+1/\d.writes+1<=n+1;omega⟩
def DG.flush(a:DG d n):d.flush=(d.spent.flushed,0):=by
 unfold DV.flush;rw[NB (by rw[a.on];simp),NB (by rw[a.armed];simp)]
def DG.after(a:DG d n):DG d.spent.flushed (n+1):=⟨a.on,a.armed,a.keep,a.blocks,by have:=a.writes;show 0<=d.writes+1/\d.writes+1<=n+1;omega⟩
def DG.many(a:DG d n)(f:Nat->ByteArray): ∀m:Nat,DG (pB d k f m) (n+m)
 |0=>by simpa[pB] using a
 |m+1=>by have:=(DG.many a f m).next (k+m) (f m);rw[(zo:n+((m+1:Nat):Int)=n+m+1)];exact this
end
section
variable{w w' w1:Qm}{q:Nat}{rest:List Qn}{T:Qp}{S S' S1:aM}{F:Nat->Prop}{n:Int}
def rm(c:bD w q rest T S)(gen:Int)(f:0<=gen):Qo zP 337 #[q,.int .u64 gen] w (aK w (.int .i64 (if gen%2=1 then 18 else 28))):=by
 obtain⟨g,h,i,j,k,l,m,n,o,p,r,s,t,u⟩:=c.cells;have hq:=aa c.blk;have d:gen.tmod 2=gen%2:=PI f;clear c;by_cases a:gen%2=1
 ·rw[NH a]
  rw[a] at d;go_enter func337,ntmps337;go_wp2;go_ret;exact⟨rfl,ND _ _⟩
 ·rw[NB a]
  have e:gen%2=0:=zo;rw[e] at d;go_enter func337,ntmps337;go_wp2;go_ret;exact⟨rfl,ND _ _⟩
def nS(a:bD w q rest T S):Qo zP 127 #[q] w (aK w (.bool false)):=by
 obtain⟨c,d,e,f,g,h,i,j,k,l,m,n,o,p⟩:=a.cells;have hq:=aa a.blk;clear a;go_enter func127,ntmps127;go_wp2;go_ret;exact⟨rfl,ND _ _⟩
def wA(H:Qs (bD w q rest T S)):Qo zP 70 #[q] w (aK w (rl S.lg)):=by
 obtain⟨e,c⟩:=zy (rl S.lg);rw[<-c];go_enter func70,ntmps70;go_wp2_with fail;refine zb (nS H) λw1 d=>?_
 obtain⟨h,i,j,k,l,m,n,o,p,r,s,t,f,u⟩:=(H.below d).cells;have hq:=aa (H.below d).blk;rw[<-c] at f
 have g: ∃a,e= .pointer a:=by
  rw[c];cases S.lg with
  |none=>exact⟨none,rfl⟩
  |some x=>exact⟨_,rfl⟩
 obtain⟨a,rfl⟩:=g;go_wp2;go_ret;exact⟨rfl,d⟩
def IP(w:Qm)(q:Nat)(rest:List Qn)(T:Qp)(S:aM)(e:Qq)(w':Qm):Prop:=
 e= .returned (.int .i64 0)/\Qs (bz w q rest T S w' {S with c:=S.c+18,d:=(pB S.d 0 (λ_=>jH) 18).spent.flushed})
def Db(H:Qs (bD w q rest T S))(a0:Qs (DG S.d n))(U:n<=1000000000)(V:S.c+18<=1000000):Qo zP 115 #[q] w (IP w q rest T S):=by
 have P:=zh V;have Q:=zh U;clear V U;go_enter func115,ntmps115;go_wp2_with fail;obtain⟨zt,o⟩:=zy jH;have J:=strings_Repeat ⟨#[0]⟩ 256 w zd zd;rw[show(⟨(Lib.repeatL (⟨#[0]⟩:ByteArray).data.toList 256).toArray⟩:ByteArray)=zt from o.symm] at J;refine J.mono ?_;rintro e w1 ⟨rfl,R⟩;have K:=bz.refl H R;obtain⟨p,r,s,t,u,v,x,y,A,B,C,D,E,F⟩:=K.at_.cells;have I:=aa K.at_.blk;clear R J;go_wp2_with fail;clear p r s t u v x y A B C D E F I;go_loopw [13] (λi W=> ∃(k:Nat),k<=18/\i= .int .i64 k/\Qs (bz w q rest T S W {S with c:=S.c+k,d:=pB S.d 0 (λ_=>jH) k})) (λi _=>18-(intOf i).toNat)
 case atStart=>exact⟨0,zd,rfl,zh K⟩
 case round=>
  obtain⟨k,a1,rfl,a⟩:=hrel;obtain⟨f,g⟩:=zy ({S with c:=S.c+k,d:=pB S.d 0 (λ_=>jH) k}:aM);rw[<-g] at a;have L:=a0.many (k:=0) (λ_=>jH) k;rw[show pB S.d 0 (λ_=>jH) k=f.d by rw[g]] at L;have h:=zh L;obtain⟨p,r,s,t,u,v,x,y,A,B,C,D,E,F⟩:=a.at_.cells;have I:=aa a.at_.blk;clear L;by_cases a2:k<18
  ·go_wp2_with fail
   have M:=gJ k zt a.at_.disk (by rw[g];have:=P.out;show S.c+k+1<=1000000;omega) (by unfold aQ;omega) (by have:=h.writes;have:=Q.out;omega) (by rw[o];decide);rw[h.write zo (by rw[o];decide)] at M;refine M.mono ?_;clear M;rintro e X ⟨rfl,j,l⟩;have N:=a.trans (a.at_.disk' j (h.next k zt).keep l);clear j l p r s t u v x y A B C D E F I;go_wp2_with fail;refine⟨⟨k+1,zo,rfl,zh ?_⟩,by simp only[intOf];omega⟩;have m:=N;rw[show({f with c:=f.c+1,d:=f.d.spent.put k zt}:aM)={S with c:=S.c+(k+1),d:=pB S.d 0 (λ_=>jH) (k+1)} by rw[g,o];simp only[pB,OU,Int.zero_add]] at m;exact m
  ·have Y:k=18:=zo
   subst Y;have Z:((18:Nat):Int)=18:=rfl;rw[Z];go_wp2_with fail;have O:=iG a.at_.disk (by rw[g];exact P) (by have:=h.writes;have:=Q.out;omega);rw[h.flush] at O;refine O.mono ?_;clear O;rintro e X ⟨rfl,j,l⟩;have N:=a.trans (a.at_.disk' j h.after.keep l);clear j l p r s t u v x y A B C D E F I;go_wp2;go_ret;refine⟨rfl,?_⟩;have m:=N;rw[show({f with c:=f.c,d:=f.d.spent.flushed}:aM)={S with c:=S.c+18,d:=(pB S.d 0 (λ_=>jH) 18).spent.flushed} by rw[g]] at m;exact m
end
def aA.cells(p:aA):List Qn:= [.int .u64 p.id,.int .i64 p.tier,.int .i64 p.shard,.int .i64 0,.int .i64 1,p.bv,p.rv]
def aA.ent(p:aA):bj:=⟨p.id,p.tier,p.shard,p.blk,p.bv⟩
def lH(l:List UInt8):List UInt8:=l++List.replicate ((256-l.length%256)%256) 0
def ii(l:List UInt8)(k:Nat):ByteArray:=aO ((l.drop (256*k)).take 256)
def kO(l:List UInt8):Nat:=(l.length+255)/256
def fB(S:aM)(st:au)(L:List aA):bI:={oJ st with gen:=S.gen+1,id:=S.id,es:=L.map aA.ent}
def mH(S:aM)(st:au)(L:List aA):DV:=(pB S.d (if (S.gen+1)%2=1 then 18 else 28) (ii (lH (fB S st L).bytes)) (kO (fB S st L).bytes)).spent.flushed
section
variable{w w' w1:Qm}{q:Nat}{rest:List Qn}{T:Qp}{S S' S1:aM}{F:Nat->Prop}{n:Int}{b:SB}{st:au}
def Lu(w:Qm)(q:Nat)(rest:List Qn)(T:Qp)(S:aM)(st:au)(L:List aA)(e:Qq)(w':Qm):Prop:=
 e= .returned (.tuple #[.int .i64 (fB S st L).bytes.length,()])/\bz w q rest T S w' {S with c:=S.c+kO (fB S st L).bytes,d:=mH S st L}
def bD.fr_below{k:Nat}(a:bD w q rest T S)(c:Qr w.heap.size w w')(e:S.fr w' q k):S.fr w q k:=by
 rcases e with e|e|e
 ·exact .inl e
 ·exact .inr (.inl ((a.own_below c k).1 e))
 ·exact .inr (.inr e)
def Ku{x:Int}(a: -1000000<=x/\x<=1000000):wrap64 x=x:=by unfold wrap64;omega
def wB:(zP.info? 338).map (λi=>(i.zero,i.size,i.bytes))=some (some (.agg #[.int .u64 0,(),(),(),(),z0]),6,64):=zk
def Gc(w:Qm)(q:Nat)(rest:List Qn)(T:Qp)(S:aM)(e:Qq)(w':Qm):Prop:=
 e= .returned (.tuple #[(),(14:Int)])/\bz w q rest T S w' {S with c:=S.c+1}
structure rY(d:DV):Prop where
 on:d.on=false
 keep:d.keep= []
 writes:0<=d.writes/\d.writes<=1000000000
def IQ(c:bI):0<c.bytes.length:=by simp[bI.bytes,bI.head,aV,am];omega
def Gd{B:Nat}{pv:Qn}{L:List aA}(i2:cl B w)(x7:B<=w.heap.size)(x8:Qs (bJ w b st))(x9:Qs st.ok)(y0:Qs (aQ st.τ.r.now))(H:Qs (bD w q rest T S))(K:DG S.d n\/rY S.d)(r1:n<=1000000000)(r2:S.c+10<=1000000)
 (n3:aB 7 aA.cells w pv L) (r3:Qs (∀p∈L,aE w p.bv [p.blk])) (y1:Qs (∀p∈L,∃a m c,p.rv= .slice a m c)) (r4:L.length<=20) (g4:0<=S.gen/\S.gen<=1000000) (y2:Qs ((fB S st L).valid)) (r5:0<=S.id/\S.id<=1000000) (y3:Qs ((fB S st L).short)) (r6:(fB S st L).bytes.length<=2560):
 Qo zP 259 #[q,b.s,pv] w (λe w'=>(DG S.d n/\Lu w q rest T S st L e w')\/(rY S.d/\Gc w q rest T S e w')):=by
 have r7:=zh i2;have r8:=zh K;have n4:=zh r1;have j8:=zh r2;have r9:=zh n3;have s0:=zh r6;obtain⟨G,g9⟩:=zy S.gen;obtain⟨h0,h1⟩:=zy S.id;rw[<-g9] at g4;rw[<-h1] at r5;have s1:=zh g4;obtain⟨s2,s3,rfl,n5,-⟩:=id n3;obtain⟨N,b1⟩:=zy L.length;rw[<-b1] at r4 n5⊢;clear i2 K r1 r2 n3 r6;go_enter func259,ntmps259;go_wp2_with fail;refine(CX x8 x9 y0).mono ?_;rintro e w1 ⟨y4,rfl,s4,R⟩;obtain⟨y5,y6,y7,sv,rfl,b2⟩:=s4;have j9:=zh b2;obtain⟨b3,b4,rfl,-⟩:=id b2.p;obtain⟨b5,b6,rfl,-⟩:=id b2.f;obtain⟨b7,b8,rfl,-⟩:=id b2.o;obtain⟨b9,c1,rfl,-⟩:=id b2.s;obtain⟨f,k0⟩:=zy (oJ st);rw[<-k0] at j9⊢;obtain⟨lt,k1⟩:=zx f.pl.length;obtain⟨c2,k2⟩:=zx f.fl.length;obtain⟨c3,k3⟩:=zx f.tl.length;obtain⟨c4,k4⟩:=zx f.src.length;have y8:=zh (And.intro k1 (And.intro k2 (And.intro k3 k4)));rw[<-k1,<-k2,<-k3,<-k4] at j9⊢;clear b2 k1 k2 k3 k4;go_wp2_with fail;obtain⟨h,h2⟩:=zx w1.heap.size;obtain⟨h3,h4⟩:=zx (w1.alloc (.cells #[.int .u64 f.gen,.int .u64 f.id,(f.now:Int),f.pn,.slice b3 lt b4,.slice b5 c2 b6,f.tn,.slice b7 c3 b8,.slice b9 c4 c1,(f.bound:Int),(f.done:Int),z0] 382));have h5:=zh (show h3.heap[h]?=some (.cells #[.int .u64 f.gen,.int .u64 f.id,(f.now:Int),f.pn,.slice b3 lt b4,.slice b5 c2 b6,f.tn,.slice b7 c3 b8,.slice b9 c4 c1,(f.bound:Int),(f.done:Int),z0] 382) by rw[h4,h2];exact Nu _ _);have h6:Qr w1.heap.size w1 h3:=by rw[h4];exact ak w1 _
 have B2:=zh h6;have h7:=zh h2;rw[<-h4,<-h2];obtain⟨d1,d2,d3,d4,d5,d6,d7,Z,c5,c6,d8,d9,e0,e1⟩:=((H.below R).below h6).cells;rw[<-g9] at c5;rw[<-h1] at c6;have a0:=aa ((H.below R).below h6).blk;obtain⟨e2,e3,e4,e5,e6,e7,e8,e9,f0,f1,f2,f3⟩:=bQ h5;have f4:=aa h5;have k5:=λo=>ad (o:=o) h5
 have f5:q≠h:=by have:=aa (H.below R).blk;omega
 have s5:h≠q:=f5.symm;clear h4 h6 h2;go_region;obtain⟨h8,h9⟩:=zx ((h3.setCell ⟨h,0,none⟩ (.int .u64 (G+1))).setCell ⟨h,1,none⟩ (.int .u64 h0));rw[<-h9]
 have n6:Ch (·=h) h3 h8:=by
  rw[h9]
  iterate 2 refine aP ?_ (.inl rfl)
  exact Ch.refl _ _
 have s6:=zh (show h8.heap[h]?=some (.cells #[.int .u64 (G+1),.int .u64 h0,(f.now:Int),f.pn,.slice b3 lt b4,.slice b5 c2 b6,f.tn,.slice b7 c3 b8,.slice b9 c4 c1,(f.bound:Int),(f.done:Int),z0] 382) by rw[h9,al (al h5 _)];rfl);have s7:=zh (show h8.drew.heap[h]?=_ from s6);have s8:=zh (show Qr w1.heap.size w1 h8 from B2.trans (n6.below (B:=w1.heap.size) (λk i0=>by have i0:k=h:=i0;have:=h7.out;omega) B2.size));have s9:=zh (s8.drew);obtain⟨t0,t1,k6,t2,i1⟩:=info_parts wB;clear n5;clear h9 n6 d1 d2 d3 d4 d5 d6 d7 Z c5 c6 d8 d9 e0 e1 a0 e2 e3 e4 e5 e6 e7 e8 e9 f0 f1 f2 f3 f4 k5 f5 s5;go_wp2_with fail;go_loopw [37] (λi a1=> ∃(k:Nat) (v:Qn),k<=N/\i= .int .i64 k/\Qs (Qr w1.heap.size w1 a1)/\Qs (a1.heap[h]?=some (.cells #[.int .u64 (G+1),.int .u64 h0,(f.now:Int),f.pn,.slice b3 lt b4,.slice b5 c2 b6,f.tn,.slice b7 c3 b8,.slice b9 c4 c1,(f.bound:Int),(f.done:Int),v] 382))/\Qs (a1.ownsRow (h+1) 338 6 v k (((L.map aA.ent).take k).flatMap bj.cells))) (λi _=>N-(intOf i).toNat)
 case atStart=>exact⟨0,_,Nx _,rfl,s9,s7,zh zw⟩
 case round=>
  obtain⟨k,v,i0,rfl,c7,a2,U⟩:=hrel;by_cases n7:k<N
  ·obtain⟨p,c8⟩: ∃p,L[k]?=some p:=⟨_,Np (by rw[<-b1];exact n7)⟩
   have k7:=NO c8;have F:=zh (R.trans (c7.mono R.size));have n8:aB 7 aA.cells wr (.slice s2 N s3) L:=by have:=r9.below F;rw[<-b1] at this;exact this
   have f6:=r3 p k7;have t3:=zh f6;have n9:=y1 p k7;have t4:=zh c8;obtain⟨f7,f8,sh,k8,y9,A0,A1⟩:=p;dsimp only at f6 n9;simp only[aE,NS] at f6;obtain⟨f9,g0,rfl,-⟩:=id f6;obtain⟨t5,t6,rc,rfl⟩:=n9;obtain⟨A2,go,rfl,i2,u⟩:=n8.elem (λ_=>rfl) c8;have k9:=u 0 _ rfl;simp only[NR] at k9;have o0:=u 1 _ rfl;have o1:=u 2 _ rfl;have o2:=u 3 _ rfl;have o3:=u 4 _ rfl;have o4:=u 5 _ rfl;have o5:=u 6 _ rfl;dsimp only at k9 o0 o1 o2 o3 o4 o5 t3;obtain⟨e2,e3,e4,e5,e6,e7,e8,e9,f0,f1,f2,f3⟩:=bQ a2;have f4:=aa a2;have k5:=λo=>ad (o:=o) a2
   obtain⟨va,vc,rfl⟩:=az U;clear c8 k7 n8 u f6;have t7:((L.map aA.ent).take k).length=k:=by rw[NP,OC,<-b1];omega
   clear t7;go_wp2_with (at_builtin;refine bb (enc:=bj.cells) rfl _ _ 380 rfl (h+1) 338 t0 _ 64 underlying380 t1 k6 t2 i1 rfl zd _ _ k _ [bj.mk f7 f8 sh k8 (.slice f9 (1:Nat) g0)] rfl ((U.alloc _).alloc _) rfl (bC 6 (c:=1) (l:= [bj.mk f7 f8 sh k8 (.slice f9 (1:Nat) g0)]) (ag zm) rfl ⟨Nt 1,zd⟩) (λ_=>rfl) ?qc1 ?qc2 zd ?qc3 ?_)
   case qc1=>intro x l0 y g1;obtain rfl:=Nz.1 l0;simp only[bj.cells,NL,NJ,Ou] at g1;rcases g1 with rfl|rfl|rfl|rfl|rfl|rfl<;>rfl
   case qc2=>show(k+1)*64<140737488355328;omega
   case qc3=>simp;omega
   intro A3 w7 l1 o6 t8;obtain⟨o7,l2⟩:=zx ((wr.alloc (.cells #[.int .u64 f7,(f8:Int),(sh:Int),(),(1:Int),.slice f9 (1:Nat) g0,.slice t5 t6 rc] 340)).alloc (.cells #[.int .u64 f7,(f8:Int),(sh:Int),(),(1:Int),.slice f9 (1:Nat) g0] 338));have g2:Qr wr.heap.size wr o7:=by rw[l2];exact(ak wr _).trans (ze.mono zm)
   have a3:o7.grownBy w7 (Value.slice va k vc).ownBlock:=by rw[l2];exact o6
   have f5:(Value.slice va k vc).ownBlock≠some h:=λe=>by have:=(ar U e).1;omega
   have g3:=(a3.block h (No f4 g2.size) (λe=>f5 e.symm)).trans (ab a2 g2);have t9:=zh g3;have o8:=zh (show Qr w1.heap.size w1 w7 from(c7.trans (g2.mono c7.size)).trans ⟨a3.os,a3.tape,a3.output,a3.size,λj i3=>a3.block j (No i3 (Nq c7.size g2.size)) (λe=>by have:=(ar U e.symm).1;have:=h7.out;omega)⟩);have A4:=aa g3;obtain⟨e2,e3,e4,e5,e6,e7,e8,e9,f0,f1,f2,f3⟩:=bQ g3;have k5:=λo=>ad (o:=o) g3
   have u0:=zh l1;obtain⟨u1,u2,rfl⟩:=az l1;clear l1 o6 t8 g2 a3 f5 l2 g3 k9 o0 o1 o2 o3 o4 o5 i2;go_wp2_with fail;have u3:Ch (·=h) w7 (w7.setCell ⟨h,11,none⟩ (.slice u1 (k+1:Nat) u2)):=aP (Ch.refl _ _) (.inl rfl)
   have u4:(L.map aA.ent).take (k+1)=(L.map aA.ent).take k++ [bj.mk f7 f8 sh k8 (.slice f9 (1:Nat) g0)]:=by
    rw[OH,OG,t4];rfl
   refine⟨⟨k+1,_,zo,rfl,zh (o8.trans (u3.below (B:=w1.heap.size) (λj i3=>by have i3:j=h:=i3;have:=h7.out;omega) o8.size)),zh (by rw[al t9];rfl),zh ?_⟩,by simp only[intOf];omega⟩;rw[u4,NK];have l3:=u0.out;simp only[NS,NZ,List.flatMap_nil,OJ] at l3⊢;exact aZ l3 λg g4=>af _ (by have:=(ar l3 g4).1;show g≠h;omega)
  ·have i4:k=N:=zo
   rw[i4] at U⊢;have o9:(L.map aA.ent).take N=L.map aA.ent:=NC (by rw[OC,<-b1];exact Nt _);rw[o9] at U;obtain⟨e2,e3,e4,e5,e6,e7,e8,e9,f0,f1,f2,f3⟩:=bQ a2;have f4:=aa a2;obtain⟨va,vc,rfl⟩:=az U;have F:=zh (R.trans (c7.mono R.size))
   have p0:=zh (show fL wr (.agg #[.int .u64 (G+1),.int .u64 h0,(f.now:Int),f.pn,.slice b3 lt b4,.slice b5 c2 b6,f.tn,.slice b7 c3 b8,.slice b9 c4 c1,(f.bound:Int),(f.done:Int),.slice va N vc]) (fB S st L) by
    refine⟨.slice b3 lt b4,.slice b5 c2 b6,.slice b7 c3 b8,.slice b9 c4 c1,.slice va N vc,by rw[g9,h1,k0];rfl,?_⟩;have I:=j9.below c7;rw[k0] at I;refine⟨I.p,I.f,I.o,I.s,?_,λx l0=>?_⟩
    ·have s:=U.out
     rw[show N=(L.map aA.ent).length by rw[OC];exact b1] at s⊢;exact(aB.own s).1
    ·obtain⟨p,c8,rfl⟩:=OI.1 l0
     exact(r3 p c8).below F)
   obtain⟨t,a4⟩:=zy (fB S st L);rw[<-a4] at p0;go_wp2_with fail;refine zb (wx (r7.fresh F) (Nq x7 F.size) p0 (by rw[a4];exact y2) (by rw[a4];show 0<=S.id/\S.id<=_;rw[<-h1];omega) (by rw[a4];exact y3)) λu5 c9=>?_
   obtain⟨TB,i5⟩:=zx (aO t.bytes);obtain⟨l4,i6⟩:=zx t.bytes.length;have p1:l4<=2560:=by rw[i6,a4];exact s0
   have l5:TB.size=l4:=by rw[i5,cv,i6]
   have l6:=zh (bz.refl H (F.trans (c9.mono F.size)));have u6:=zh (ab a2 c9);rw[<-i5];have i7:=zh l5;have u7:TB.size<=2560:=zo;obtain⟨M,l7⟩:=zx (l4%256);obtain⟨A,p2⟩:=zx ((256-M)%256);have p3:M<256:=zo;have g5:Int.tmod (TB.size:Int) 256=(M:Int):=by rw[l7,l5];exact PI zo
   have g6:Int.tmod (256-(M:Int)) 256=(A:Int):=by rw[PI zo];omega
   have i8:A<256:=zo;have a5:=zh (And.intro i5 (And.intro i6 (And.intro l7 p2)));obtain⟨d1,d2,d3,d4,d5,d6,d7,Z,c5,c6,d8,d9,e0,e1⟩:=l6.at_.cells;have a0:=aa l6.at_.blk;have p4:=zh p1;have A5:=zh (And.intro p3 (And.intro g5 (And.intro g6 i8)));clear i5 i6 l7 p2 e2 e3 e4 e5 e6 e7 e8 e9 f0 f1 f2 f3 f4 o9 i4 n7 l5 p1 p3 g5 g6 i8 i0 r4 g4 r5;clear d1 d2 d3 d4 d6 d7 Z c5 c6 d8 d9 e0 e1;have u8:decide ((2560:Int)<(TB.size:Int))=false:=NQ (by have:=i7.out;have:=p4.out;omega);go_wp2_with fail;have p5: -((TB.size:Int)%256)%256=(A:Int):=by have:=i7.out;have O:=a5.2.2;omega
   rw[p5];have i8:A<256:=by have O:=a5.2.2.2;omega
   have p6:=strings_Repeat ⟨#[0]⟩ A u5 zo (by show 1*A<=_;omega);refine p6.mono ?_;rintro e p7 ⟨rfl,i9⟩;obtain⟨j0,j1⟩:=zx (⟨(Lib.repeatL (⟨#[0]⟩:ByteArray).data.toList A).toArray⟩:ByteArray);have p8:j0.size=A:=by rw[j1];show((Lib.repeatL [0] A).toArray).size=A;simp[Lib.repeatL_length]
   have u9:=zh j1;have v0:=zh p8;have v1:j0.size<=256:=zo;have v2:=zh (l6.fresh i9);rw[<-j1];have v3:=zh (ab u6 i9)
   have v4:=zh (show¬S.fr p7 q h from λe=>by
    have I:=H.fr_lt (H.fr_below ((F.trans (c9.mono F.size)).trans (i9.mono (Nq F.size c9.size))) e);have s:=h7.out;have p9:=R.size;omega)
   clear j1 p8 i9 p6 p5;go_wp2_with fail
   have q0:TB++j0=aO (lH t.bytes):=by
    rw[a5.1,u9];have l8:(256-t.bytes.length%256)%256=A:=by have O:=a5.out;rw[<-O.2.1,<-O.2.2.1];exact O.2.2.2.symm
    unfold lH;rw[l8];apply Qg;show(aO t.bytes++_).data=(aO _).data;have l9:Lib.repeatL [0] A=List.replicate A 0:=by have:=Lib.repeatL_replicate 0 1 A;simpa using this
    simp[aO,Pi,l9]
   obtain⟨a6,j2⟩:=zx (TB++j0)
   have v5: ∃m:Nat,m=kO t.bytes/\a6.size=256*m/\m<=10:=by
    refine⟨_,rfl,?_,?_⟩
    ·rw[j2,Oh,v0,i7]
     have O:=a5.out;unfold kO;rw[<-O.2.1];omega
    ·have O:=a5.out
     have:=p4.out;unfold kO;rw[<-O.2.1];omega
   obtain⟨m,g5,g6,q1⟩:=v5;have P:=zh (And.intro (j2.trans q0) (And.intro g5 (And.intro g6 q1)));rw[<-j2];clear g5 g6 q1 q0 j2;obtain⟨r,m0⟩:=zy ((if (S.gen+1)%2=1 then 18 else 28):Int);have v6:=v2;have v7:=zh (show p7.cell? ⟨h,0,none⟩=_ from(bQ v3).1);clear d5 a0 v1 u7 i8 u8;go_loopw [14] (λi a1=> ∃(k:Nat) (z:Int),k<=m/\Qs (z=256*(k:Int))/\i= .int .i64 z/\Qs (bz w q rest T S a1 {S with c:=S.c+k,d:=pB S.d r (ii (lH t.bytes)) k})/\Qs (a1.cell? ⟨h,0,none⟩=some (.int .u64 (G+1)))/\Qs (¬aM.fr {S with c:=S.c+k,d:=pB S.d r (ii (lH t.bytes)) k} a1 q h)/\Qs (DG S.d n\/(rY S.d/\k=0))) (λi _=>256*m-(intOf i).toNat)
   case atStart=>exact⟨0,0,Nx _,zh rfl,rfl,zh v6.out,v7,zh v4.out,zh (r8.imp id λm1=>⟨m1,rfl⟩)⟩
   case round=>
    obtain⟨k,z,q2,E,rfl,Q,v8,q3,q4⟩:=hrel;obtain⟨C,J⟩:=zy ({S with c:=S.c+k,d:=pB S.d r (ii (lH t.bytes)) k}:aM);rw[<-J] at Q q3;obtain⟨A6,A7⟩:=zy ((a6.size:Int):Int);obtain⟨d1,d2,d3,d4,d5,d6,d7,Z,c5,c6,d8,d9,e0,e1⟩:=Q.at_.cells;have a0:=aa Q.at_.blk;have g7:=v8.out;have u:=Nv _ _ g7;clear d1 d2 d3 d4 d5 d6 d7 c5 c6 d8 d9 e0 e1;have v9:=zh q2;clear q2;by_cases m2:k<m
    ·have d0:=zh m2
     have m3:decide (z<(a6.size:Int))=true:=NV (by have:=P.2.2;have:=E.out;have:=d0.out;omega);clear m2;go_wp2_with fail;obtain⟨y,g1⟩:=zx (z+256:Int);have m4:=zh g1;have w2:y<=(a6.size:Int):=by have:=P.2.2;have:=E.out;have:=d0.out;omega
     have k6:0<=z:=by have:=E.out;omega
     have w3:0<=y:=zo;have w4:z<=y:=zo;have w5:Int.tdiv z 256=(k:Int):=by have I:=E.out;rw[I,Int.mul_comm];exact Int.mul_tdiv_cancel _ zd
     have i1:z+256<=2560:=by have:=P.2.2;have:=E.out;have:=d0.out;omega
     have m5:k<10:=by have:=P.2.2.2;have:=d0.out;omega
     have q5:r=18\/r=28:=by rw[m0];split<;>simp
     obtain⟨V,j3⟩:=zx (a6.extract z.toNat y.toNat);have w6:a6.extract z.toNat y.toNat=V:=j3.symm
     have w8:=zh (show V=ii (lH t.bytes) k by
      rw[j3,P.1];unfold ii;have l8:z.toNat=256*k:=by have:=E.out;omega
      have l9:y.toNat=256*k+256:=by have:=E.out;omega
      rw[l8,l9];refine vp ?_;rw[Lib.extract_data];simp[aO])
     have w9:=zh (show wrap64 (z+256)=y by rw[Ku ⟨zo,zo⟩,m4]);have m6:=zh (show V.size=256 by rw[j3,OD];have:=E.out;omega);have a7:=zh (And.intro m5 (And.intro q5 i1));have c9:=a7.out
     have j4:wrap64 (r+(k:Int))=r+(k:Int)/\wrap64 (k:Int)=(k:Int)/\IntKind.i64.wrap (z+256)=y/\IntKind.i64.wrap (r+(k:Int))=r+(k:Int):=by
      refine⟨Ku ⟨zo,zo⟩,Ku ⟨zo,zo⟩,?_,?_⟩
      ·rw[IntKind.wrap_i64];omega
      ·rw[IntKind.wrap_i64];omega
     clear j3 g1 m5 q5 i1 c9;obtain⟨j4,q6,x0,x1⟩:=j4;refine aC (S:=(iz wr)) 16 zk ?_ (λD=>?_)
     ·(first|exact ax _|exact aj _ _ D q8|exact aj _ _ D ze|exact D)
     refine zT 0 ?_;refine zT 1 ?_;refine zT 2 ?_;refine zT 3 ?_;refine zT 4 ?_;refine zT 5 ?_;refine zT 6 ?_;refine zT 8 ?_;refine zT 9 ?_;refine zT 11 ?_;refine zT 12 ?_;refine zT 13 ?_;refine zT 14 ?_;refine zT 15 ?_;refine zO 7 λA8 x2=>?_
     go_simp;have m7:=rm (Q.at_.below D.1) (G+1) (by have:=s1.out;omega);rw[show(if (G+1)%2=1 then(18:Int) else 28)=r by rw[m0,g9]] at m7;refine m7.mono ?_;rintro e q7 ⟨rfl,q8⟩;clear m7;refine zE x2 (by first|exact ax _|exact aj _ _ D q8|exact aj _ _ D ze|exact D) λD=>?_
     refine zT 10 ?_;refine zF ?_;go_wp2_with fail;rw[q6,j4];clear j4 q6 x0 x1 w3 w2 k6 w4 w5 w6 m3;have W:=zh (Q.fresh D.1);have j5:=(bz.refl Q.at_ D.1).out_ u q3;have x3:=zh ((D.2 h 0 u).trans g7);have j6:h<q7.heap.size:=No u D.1.size;rcases q4.out with a8|⟨g8,m8⟩
     rotate_left
     ·have j7:C.d=S.d:=by rw[J,m8];rfl
      have a9:=gJ (r+k) V W.at_.disk (by rw[J];have:=j8.out;have:=a7.out;show S.c+k+1<=1000000;omega) (by have:=a7.out;unfold aQ;omega) (by rw[j7];have:=g8.writes;omega) (by have:=m6.out;omega);rw[show C.d.write (r+k) V=(C.d,14) by unfold DV.write;rw[j7,NH g8.on]] at a9;refine a9.mono ?_;clear a9;rintro e x4 ⟨rfl,X,Y⟩;have m9:=zh (W.trans (W.at_.disk' X (by rw[j7];exact g8.keep) Y));have q9:=zh (show rY S.d/\({C with c:=C.c+1,d:=C.d}:aM)={S with c:=S.c+1} from⟨g8,by rw[J,m8];rfl⟩);clear X Y Z a0 g7 u D j5 j6 j7 g8 m8;go_wp2_with fail;go_ret2;refine .inr ⟨q9.1,rfl,?_⟩;have s:=m9.out;rw[q9.2] at s;exact s
     have n0:=zh a8;have K:=a8.many (k:=r) (ii (lH t.bytes)) k;rw[show pB S.d r (ii (lH t.bytes)) k=C.d by rw[J]] at K;have b0:=zh K;clear K a8;have a9:=gJ (r+k) V W.at_.disk (by rw[J];have:=j8.out;have:=a7.out;show S.c+k+1<=1000000;omega) (by have:=a7.out;unfold aQ;omega) (by have:=b0.writes;have:=n4.out;have:=a7.out;omega) (by have:=m6.out;omega);rw[b0.write (by have:=a7.out;omega) m6] at a9;refine a9.mono ?_;clear a9;rintro e x4 ⟨rfl,X,Y⟩;have n1:=zh (W.at_.disk' X (b0.next (r+k) V).keep Y);have x5:=zh ((bT n1.ch j6 j5.2).trans x3);have x6:=zh (n1.out_ j6 j5.2).2;have m9:=zh (W.trans n1);clear X Y Z a0 g7 u D j5 j6;have r0:=zh (show({C with c:=C.c+1,d:=C.d.spent.put (r+k) V}:aM)={S with c:=S.c+(k+1),d:=pB S.d r (ii (lH t.bytes)) (k+1)} by rw[J,w8];simp only[pB,OU]);go_wp2_with fail;rw[w9];refine⟨⟨k+1,y,by have:=d0.out;omega,zh (by have:=m4.out;have:=E.out;omega),rfl,zh ?_,x5,zh ?_,zh (.inl n0)⟩,?_⟩
     ·have s:=m9.out
      rw[r0] at s;exact s
     ·have s:=x6.out
      rw[r0] at s;exact s
     ·have I:=m4.out
      have s:=E.out;have p9:=d0.out;show 256*m-y.toNat<256*m-z.toNat;omega
    ·have i4:k=m:=by have:=v9.out;omega
     have m3:decide (z<(a6.size:Int))=false:=NQ (by have:=P.2.2;have:=E.out;omega);clear m2;go_wp2_with fail
     have a8:DG S.d n:=q4.elim id λm1=>by
      have I:=IQ t;have s:=P.2.1;have p9:=m1.2;unfold kO at s;omega
     have n0:=zh a8;have K:=a8.many (k:=r) (ii (lH t.bytes)) k;rw[show pB S.d r (ii (lH t.bytes)) k=C.d by rw[J]] at K;have b0:=zh K;have m5:k<=10:=by have:=P.2.2.2;omega
     have n2:=iG Q.at_.disk (by rw[J];have:=j8.out;show S.c+k<=1000000;omega) (by have:=b0.writes;have:=n4.out;omega);rw[b0.flush] at n2;refine n2.mono ?_;clear n2 K a8;rintro e q7 ⟨rfl,X,Y⟩;have W:=zh (Q.trans (Q.at_.disk' X b0.after.keep Y));clear X Y Z a0 g7 u m3;go_wp2;go_ret2;refine .inl ⟨n0,by rw[show((fB S st L).bytes.length:Int)=(TB.size:Int) by rw[i7,a5.2.1,a4]];rfl,?_⟩;have s:=W.out
     rw[show({C with c:=C.c,d:=C.d.spent.flushed}:aM)={S with c:=S.c+kO (fB S st L).bytes,d:=mH S st L} by
      rw[J];unfold mH;rw[<-a4,<-P.2.1,i4,m0]] at s
     exact s
end
section
variable{w w' w1:Qm}{q m l:Nat}{rest:List Qn}{T:Qp}{S S' S1:aM}{F:Nat->Prop}{V':dn}{p:aA}
def wD{b o:Nat}{P:Program}{f:Qp}{d e:Type}{g:d->Qn}{ev:e->Qn}{l:List (d×e)}(a:bL P f g ev w b l):w.cell? ⟨b,o,none⟩=none:=by
 obtain⟨es,c,a,-⟩:=a;unfold World.cell?;simp[a]
def oK{b n:Nat}{P:Program}{m:Qp}{f h i:Type}{p:f->Qn}{ev:h->Qn}{l:List (f×h)}{enc:i->List Qn}{v:Qn}{x:i}{u:Qn}{t:List Qn}(q:bL P m p ev w b l)(r:aB n enc w v [x])(s:enc x=u::t): ¬aD v b:=by
 obtain⟨a,c,rfl,-,j⟩:=r;obtain⟨g,o,rfl,-,k⟩:=j zm;rintro⟨-,e⟩;have e:g=b:=e;subst e;have d:=k 0 u (by simp[s]);rw[wD q] at d;cases d
def jm{b:Nat}{P:Program}{k:Qp}{f h:Type}{m:f->Qn}{ev:h->Qn}{l:List (f×h)}{v:Qn}{x:Int}(n:bL P k m ev w b l)(p:aE w v [x]): ¬aD v b:=by
 obtain⟨a,c,rfl,-,-,i⟩:=p;obtain⟨g,o,rfl,-,j⟩:=i zm;rintro⟨-,e⟩;have e:g=b:=e;subst e;have d:=j 0 zm;rw[wD n] at d;cases d
def bz.setm(c:bz w q rest T S w1 S1)(n:bL zP 343 dR aA.val w1 m ([]:List ((Int×Int)×aA)))(hq:m≠q)(o: ¬S1.V.own S1.bk m)(r: ¬cL w1 S1.dp m)(s: ¬S1.logb m):bz w q rest T S (w1.setCell ⟨q,10,none⟩ (.map (some m))) {S1 with ps:= [],pm:=m}:=by
 have g:Ch (·=q) w1 (w1.setCell ⟨q,10,none⟩ (.map (some m))):=aP (Ch.refl _ _) (.inl rfl);obtain⟨j,h⟩:=c.at_.disk.ch_ c.at_.keep g (λk a e=>c.at_.nd k (.inl e) a);have f: ∀k,k≠q->(w1.setCell ⟨q,10,none⟩ (.map (some m))).heap[k]?=w1.heap[k]?:=λk a=>af _ a
 have l:bz w1 q rest T S1 (w1.setCell ⟨q,10,none⟩ (.map (some m))) {S1 with ps:= [],pm:=m}:=by
  refine⟨⟨by rw[al c.at_.blk,NN];rfl,j,c.at_.keep,c.at_.led.step λk a=>f k (c.at_.nq k (.inl a)),n.step (f _ hq),(λp d=>by cases d),λx i=>(f x.1 (c.at_.nq _ (.inr (.inr ⟨x,i,rfl⟩)))).trans (c.at_.log x i),λk a e=>?_,λk a=>?_,λk a=>?_,λk a e=>?_⟩,λk a=> .inl ?_,g.mono λk _ a=> .inl a⟩
  ·have e:=(h k).1 e
   rcases a with a|a|(a|⟨p,d,-⟩)|a
   ·exact c.at_.nd k (.inl a) e
   ·exact c.at_.nd k (.inr (.inl a)) e
   ·rw[a] at e;exact r e
   ·cases d
   ·exact c.at_.nd k (.inr (.inr (.inr a))) e
  ·rcases a with a|(a|⟨p,d,-⟩)|a
   ·exact c.at_.nq k (.inl a)
   ·rw[a];exact hq
   ·cases d
   ·exact c.at_.nq k (.inr (.inr a))
  ·rcases a with(a|⟨p,d,-⟩)|a
   ·rw[a];exact o
   ·cases d
   ·exact c.at_.nl k (.inr a)
  ·rcases e with e|⟨p,d,-⟩
   ·rw[e] at a;exact s a
   ·cases d
  ·rcases a with a|a|a
   ·exact .inl a
   ·exact .inr (.inl ((h k).1 a))
   ·exact .inr (.inr a)
 exact c.trans l
def bz.setb(c:bz w q rest T S w1 S1)(s:cq w1 l V')(o:S1.ps= [])(g: ∀k,V'.own l k->w.heap.size<=k/\k≠q/\k≠S1.pm/\ ¬cL w1 S1.dp k/\ ¬S1.logb k):bz w q rest T S (w1.setCell ⟨q,11,none⟩ (.pointer (some ⟨l,0,none⟩))) {S1 with bk:=l,V:=V'}:=by
 have f:Ch (·=q) w1 (w1.setCell ⟨q,11,none⟩ (.pointer (some ⟨l,0,none⟩))):=aP (Ch.refl _ _) (.inl rfl);obtain⟨r,i⟩:=c.at_.disk.ch_ c.at_.keep f (λk a e=>c.at_.nd k (.inl e) a);have h: ∀k,k≠q->(w1.setCell ⟨q,11,none⟩ (.pointer (some ⟨l,0,none⟩))).heap[k]?=w1.heap[k]?:=λk a=>af _ a
 have j:Ch (S.fr w q) w (w1.setCell ⟨q,11,none⟩ (.pointer (some ⟨l,0,none⟩))):=by
  have j:S1.fr w1 q q:= .inl rfl
  exact⟨f.os.trans c.ch.os,f.tape.trans c.ch.tape,f.output.trans c.ch.output,Nq c.ch.size f.size,λk a m=>(f.block k (No a c.ch.size) λe=>by
   have e:k=q:=e;exact m (.inl e)).trans (c.ch.block k a m)⟩
 refine⟨⟨by rw[al c.at_.blk,NN];rfl,r,c.at_.keep,s.step λk a=>h k (g k a).2.1,c.at_.mp.step (h _ (c.at_.nq _ (.inr (.inl (.inl rfl))))),λp d=>(by have d:p∈S1.ps:=d;rw[o] at d;cases d),λx n=>(h x.1 (c.at_.nq _ (.inr (.inr ⟨x,n,rfl⟩)))).trans (c.at_.log x n),λk a e=>?_,λk a=>?_,λk a e=>?_,c.at_.ng⟩,λk a=>?_,j⟩
 ·have e:=(i k).1 e
  rcases a with a|a|a|a
  ·exact c.at_.nd k (.inl a) e
  ·exact(g k a).2.2.2.1 e
  ·exact c.at_.nd k (.inr (.inr (.inl a))) e
  ·exact c.at_.nd k (.inr (.inr (.inr a))) e
 ·rcases a with a|a
  ·exact(g k a).2.1
  ·exact c.at_.nq k (.inr a)
 ·rcases a with(a|⟨p,d,-⟩)|a
  ·exact(g k e).2.2.1 a
  ·have d:p∈S1.ps:=d
   rw[o] at d;cases d
  ·exact(g k e).2.2.2.2 a
 ·rcases a with a|a|a|a
  ·exact .inl (.inl a)
  ·exact c.own k (.inr (.inl ((i k).1 a)))
  ·exact .inr (g k a).1
  ·exact c.own k (.inr (.inr (.inr a)))
def bz.addp(c:bz w q rest T S w1 S1)(D:bL zP 343 dR aA.val w' S1.pm ((S1.ps++ [p]).map λp=>(p.key,p)))(f:Ch (·=S1.pm) w1 w')(E:w.heap.size<=S1.pm)(s:aB 7 ay.cells w1 p.rv [p.r])(t:aE w1 p.bv [p.blk])
 (i: ∀k,aD p.rv k\/aD p.bv k->k≠q/\ ¬cL w1 S1.dp k/\ ¬S1.V.own S1.bk k/\ ¬S1.logb k):bz w q rest T S w' {S1 with ps:=S1.ps++ [p]}:=by
 have g:=c.at_.mp;have u:S1.pm≠q:=c.at_.nq _ (.inr (.inl (.inl rfl)));have v: ¬cL w1 S1.dp S1.pm:=c.at_.nd _ (.inr (.inr (.inl (.inl rfl))));have A: ¬S1.V.own S1.bk S1.pm:=c.at_.nl _ (.inl (.inl rfl));have B: ¬S1.logb S1.pm:=λe=>c.at_.ng _ e (.inl rfl)
 obtain⟨C,n⟩:=c.at_.disk.ch_ c.at_.keep f (λk a e=>by rw[e] at a;exact v a);have j: ∀k,k<w1.heap.size->k≠S1.pm->w'.heap[k]?=w1.heap[k]?:=λk a l=>f.block k a l
 have o: ∀y∈S1.ps++ [p],∀k,aD y.rv k\/aD y.bv k->k≠S1.pm:=λy d k a e=>by
  subst e;rcases Og.1 d with d|d
  ·have:=c.at_.rows y d
   rcases a with a|a
   ·exact oK g this.1 rfl a
   ·exact jm g this.2 a
  ·obtain rfl:=Nz.1 d
   rcases a with a|a
   ·exact oK g s rfl a
   ·exact jm g t a
 have h: ∀k,aM.still {S1 with ps:=S1.ps++ [p]} k->S1.still k\/aD p.rv k\/aD p.bv k:=λk a=>by
  rcases a with a|⟨y,d,a⟩
  ·exact .inl (.inl a)
  ·rcases Og.1 d with d|d
   ·exact .inl (.inr ⟨y,d,a⟩)
   ·obtain rfl:=Nz.1 d
    exact .inr a
 refine⟨⟨(j q (c.at_.lt (.inl rfl)) u.symm).trans c.at_.blk,C,c.at_.keep,c.at_.led.step λk a=>j k (c.at_.led.lt k a) (λe=>by rw[e] at a;exact A a),D,λy d=>?_,λx m=>(j x.1 (aa (c.at_.log x m)) (λe=>B ⟨x,m,e.symm⟩)).trans (c.at_.log x m),λk a e=>?_,λk a=>?_,λk a e=>?_,λk a e=>?_⟩,λk a=>?_,?_⟩
 ·have r:aB 7 ay.cells w1 y.rv [y.r]/\aE w1 y.bv [y.blk]:=by
   rcases Og.1 d with d|d
   ·exact c.at_.rows y d
   ·obtain rfl:=Nz.1 d
    exact⟨s,t⟩
  exact⟨r.1.ch f λk a=>o y d k (.inl a),r.2.ch_ f λk a=>o y d k (.inr a)⟩
 ·have e:=(n k).1 e
  rcases a with a|a|a|a
  ·exact c.at_.nd k (.inl a) e
  ·exact c.at_.nd k (.inr (.inl a)) e
  ·rcases h k a with a|a
   ·exact c.at_.nd k (.inr (.inr (.inl a))) e
   ·exact(i k a).2.1 e
  ·exact c.at_.nd k (.inr (.inr (.inr a))) e
 ·rcases a with a|a|a
  ·exact c.at_.nq k (.inl a)
  ·rcases h k a with a|a
   ·exact c.at_.nq k (.inr (.inl a))
   ·exact(i k a).1
  ·exact c.at_.nq k (.inr (.inr a))
 ·rcases a with a|a
  ·rcases h k a with a|a
   ·exact c.at_.nl k (.inl a) e
   ·exact(i k a).2.2.1 e
  ·exact c.at_.nl k (.inr a) e
 ·rcases h k e with e|e
  ·exact c.at_.ng k a e
  ·exact(i k e).2.2.2 a
 ·rcases a with a|a|a
  ·exact .inl (.inl a)
  ·exact c.own k (.inr (.inl ((n k).1 a)))
  ·exact c.own k (.inr (.inr a))
 ·exact⟨f.os.trans c.ch.os,f.tape.trans c.ch.tape,f.output.trans c.ch.output,Nq c.ch.size f.size,λk a l=>(f.block k (No a c.ch.size) λe=>by
   have e:k=S1.pm:=e;omega).trans (c.ch.block k a l)⟩
def dm(L:List aA):LP:=L.foldl (λP p=>AZ P (fZ p.tier) [p.blk]) (⟨38,52,[]⟩,[])
def IR(w:Qm)(q:Nat)(rest:List Qn)(T:Qp)(S:aM)(L:List aA)(e:Qq)(w':Qm):Prop:=
 ∃(m l:Nat) (V':dn),e= .returned (.tuple #[])/\bz w q rest T S w' {S with ps:=L,pm:=m,bk:=l,V:=V'}/\V'.pure=dm L/\w.heap.size<=m/\ ∀k,V'.own l k->w.heap.size<=k
structure JF(w:Qm)(q:Nat)(S:aM)(L:List aA):Prop where
 rows: ∀p∈L,aB 7 ay.cells w p.rv [p.r]/\aE w p.bv [p.blk]
 nb: ∀p∈L,∀k,aD p.rv k\/aD p.bv k-> ¬S.fr w q k
 keys:(L.map aA.key).Nodup
 int: ∀p∈L,aQ p.tier/\aQ p.shard
 take: ∀k p,L[k]?=some p->iw (dm (L.take k)) (fZ p.tier) [p.blk]
def ti{pv:Qn}{L:List aA}(b5:bD w q rest T S)(f2:aB 7 aA.cells w pv L)(j5: ∀k,aD pv k-> ¬S.fr w q k)(v:JF w q S L)(n1:L.length<=20):Qo zP 261 #[q,pv] w (IR w q rest T S L):=by
 have n2:= @run_makeMap zP;have H:=zh b5;have j6:=zh f2;have a4:=zh v;have j7:=zh j5;obtain⟨j8,j9,rfl,k0,-⟩:=id f2;obtain⟨a5,c9⟩: ∃y,y=L.length:=⟨_,rfl⟩;have d0:=zh c9;rw[<-c9] at n1 k0⊢;obtain⟨E,F,I,J,K,M,N,O,P,Q,Y,n,R,U⟩:=b5.cells;have f:=aa b5.blk;have d1:=λo=>ad (o:=o) b5.blk
 clear b5 f2 v c9 j5;go_enter func261,ntmps261;go_wp2_with fail;obtain⟨b6,d2⟩: ∃y,y=(w.setCell ⟨q,10,none⟩ (.map (some w.heap.size))).alloc (.map #[] 0):=⟨_,rfl⟩;have f3:b6=(w.alloc (.map #[] 0)).setCell ⟨q,10,none⟩ (.map (some w.heap.size)):=by rw[d2];exact(World.setCell_alloc_past _ _ _ _ f).symm
 obtain⟨m,a6⟩: ∃y,y=w.heap.size:=⟨_,rfl⟩;have d3:Qr w.heap.size w (w.alloc (.map #[] 0)):=ak _ _
 have a7: ¬(S.ext q m\/cL (w.alloc (.map #[] 0)) S.dp m):=λe=>by
  rcases e with e|e
  ·have:=H.out.lt e;omega
  ·have:=H.out.disk.own_lt ((H.out.own_below d3 m).1 e);omega
 have d:=zh (show bz w q rest T S b6 {S with ps:= [],pm:=m} by
  rw[f3,a6];refine(bz.refl H.out d3).setm (bL.new _ _ _ _ _) ?_ ?_ ?_ ?_<;>rw[<-a6]<;>intro e
  ·exact a7 (.inl (.inl e))
  ·exact a7 (.inl (.inr (.inl e)))
  ·exact a7 (.inr e)
  ·exact a7 (.inl (.inr (.inr (.inr e)))))
 obtain⟨S1,d4⟩: ∃y:aM,y={S with ps:= [],pm:=m}:=⟨_,rfl⟩;rw[<-d4] at d;have b7:=zh d4;have d5:=zh a6;rw[<-d2,<-a6];clear E F I J K M N O P Q Y n R U f d1 a7 d3 f3 d2 d4 a6;obtain⟨E,F,I,J,K,M,N,O,P,Q,Y,n,R,U⟩:=d.out.at_.cells;have f:=aa d.out.at_.blk;have d1:=λo=>ad (o:=o) d.out.at_.blk
 refine aC (S:=(iz b6)) 20 (by kernel_rfl) ?_ (λc=>?_)
 ·(first|exact ax _|exact aj _ _ c W|exact aj _ _ c ze|exact c)
 refine zT 0 ?_;refine zT 1 ?_;refine zT 2 ?_;refine zT 3 ?_;refine zT 4 ?_;refine zT 5 ?_;refine zT 6 ?_;refine zT 7 ?_;refine zT 8 ?_;refine zT 9 ?_;refine zT 10 ?_;refine zT 11 ?_;refine zT 12 ?_;refine zT 13 ?_;refine zT 14 ?_;refine zT 15 ?_;refine zT 16 ?_;refine zO 17 λk1 d6=>?_
 go_simp;refine(ra 38 52 _ (by decide) (by decide)).mono ?_;rintro e d7 ⟨l,V,rfl,f4,f5,f6,W⟩;have k2:=zh f4;have k3:=zh f5;have f7:=zh f6;have B2:=ai c.1 W;have f8:=zh c.1.size;clear f4 f5 f6;refine zE d6 (by first|exact ax _|exact aj _ _ c W|exact aj _ _ c ze|exact c) λc=>?_
 refine zT 18 ?_;refine zT 19 ?_;refine zF ?_;have k4:q<d7.heap.size:=No f B2.size;have k5: ∀o,d7.frozen? ⟨q,o,none⟩=false:=λo=>ad (d.out.fresh B2).at_.blk
 clear E F I J K M N O P Q Y n R U;have k6:=(d.out.fresh B2).at_.cells.2.2.2.2.2.2.2.2.2.2.2.1;go_wp2_with fail;clear k6;have k7:m<b6.heap.size:=by have:=d.out.at_.mp.lt;rw[b7.out] at this;exact this
 obtain⟨k8,d8⟩: ∃y,y=d7.setCell ⟨q,11,none⟩ (.pointer (some ⟨l,0,none⟩)):=⟨_,rfl⟩
 have f9:=zh (show bz w q rest T S k8 {S1 with bk:=l,V:=V} by
  rw[d8];refine(d.out.fresh B2).setb k2.out (by rw[b7.out]) λk g0=>?_
  have X:=f7.out k g0;have Z:=f8.out;have n3:=d.out.ch.size;refine⟨by omega,by omega,?_,λe=>?_,λe=>?_⟩
  ·have b8:S1.pm=m:=by rw[b7.out]
   omega
  ·have:=d.out.at_.disk.own_lt ((d.out.at_.own_below B2 k).1 e)
   omega
  ·have:=d.out.at_.lt (k:=k) (.inr (.inr (.inr e)))
   omega)
 have k9:=zh (show∀j,V.own l j->w.heap.size<=j from λj a=>by have:=f7.out j a;have:=f8.out;have:=d.out.ch.size;omega);have n4:=zh (show m=w.heap.size from d5.out);rw[b7.out] at f9;rw[<-d8];clear k4 k5 k7 d8 c f d1;go_wp2_with fail;go_loopw [32] (λi l0=> ∃(k:Nat) (r:dn),k<=a5/\i= .int .i64 k/\Qs (bz w q rest T S l0 {S with ps:=L.take k,pm:=m,bk:=l,V:=r})/\Qs (r.pure=dm (L.take k))/\Qs (∀j,r.own l j->w.heap.size<=j)) (λi _=>a5-(intOf i).toNat)
 case atStart=>exact⟨0,V,Nx _,rfl,zh f9.out,k3,k9⟩
 case round=>
  obtain⟨k,r,g0,rfl,s,d9,g1⟩:=hrel;obtain⟨g,e0⟩: ∃y:aM,y={S with ps:=L.take k,pm:=m,bk:=l,V:=r}:=⟨_,rfl⟩;rw[<-e0] at s;have a8:=zh e0;clear e0;by_cases l1:k<a5
  ·obtain⟨p,v⟩: ∃p,L[k]?=some p:=⟨_,Np (by rw[<-d0.out];exact l1)⟩
   have b9:=NO v;have l2:=zh v;have g2:aB 7 aA.cells wr (.slice j8 a5 j9) L:=by have:=j6.out.ch s.out.ch j7.out;rw[<-d0.out] at this;exact this
   have A:=a4.out.rows p b9;have c1:=a4.out.nb p b9;have e1:=a4.out.int p b9
   have g3: ∀j,aD p.rv j\/aD p.bv j->j<w.heap.size:=λj a=>by
    rcases a with a|a
    ·exact jl A.1 a
    ·exact iV A.2 a
   have g4:=A.1.ch s.out.ch λj a=>c1 j (.inl a)
   have g5:=A.2.ch_ s.out.ch λj a=>c1 j (.inr a)
   have g6:=zh (show∀j,aD p.rv j\/aD p.bv j-> ¬g.fr wr q j from λj a=>(s.out.out_ (g3 j a) (c1 j a)).2);have g7:=zh (a4.out.take k p v);obtain⟨ql,f⟩:=FV (p:=p.key) e1.1 e1.2;have l3:=zh f;obtain⟨c2,t,sh,g8,g9,n5,n6⟩:=p;dsimp only at A g4 g5 g6 g7;obtain⟨a0,a1,rfl,-⟩:=id A.2;obtain⟨a9,rc,rfl,-⟩:=id A.1;obtain⟨n7,go,rfl,l4,B⟩:=g2.elem (λ_=>rfl) v;have e2:=B 0 _ rfl;simp only[NR] at e2;have h0:=B 1 _ rfl;have h1:=B 2 _ rfl;have h2:=B 3 _ rfl;have h3:=B 4 _ rfl;have h4:=B 5 _ rfl;have h5:=B 6 _ rfl;dsimp only at e2 h0 h1 h2 h3 h4 h5;simp only[NS] at*;clear v b9 g2 B e1 A c1 g3 f;go_wp2_with fail;obtain⟨e3,c3⟩: ∃y,y=wr.heap.size:=⟨_,rfl⟩;obtain⟨h,c4⟩: ∃y,y=wr.alloc (.cells #[.int .u64 c2,(t:Int),(sh:Int),(),(1:Int),.slice a0 (1:Nat) a1,.slice a9 (1:Nat) rc] 340):=⟨_,rfl⟩;have c5:h.heap[e3]?=some (.cells #[.int .u64 c2,(t:Int),(sh:Int),(),(1:Int),.slice a0 (1:Nat) a1,.slice a9 (1:Nat) rc] 340):=by rw[c4,c3];exact Nu _ _
   have b0:Qr wr.heap.size wr h:=by rw[c4];exact ak _ _
   have l5:=zh c5;have a2:=s.out.fresh b0;have h6:=zh (show∀j,aD (.slice a9 (1:Nat) rc) j\/aD (.slice a0 (1:Nat) a1) j-> ¬g.fr h q j from λj a e=>g6.out j a (s.out.at_.fr_below b0 e));have l6:=g4.below b0;have e4:=g5.below b0;have h7:m≠e3:=by have X:=s.out.at_.mp.lt;have b8:g.pm=m:=(by rw[a8.out]);omega
   have l7:=zh h7;rw[<-c4,<-c3];have n8:=zh c3;obtain⟨E,F,I,J,K,M,N,O,P,Q,Y,n,R,U⟩:=a2.at_.cells;have f:=aa a2.at_.blk;obtain⟨h8,h9,i0,i1,i2,i3,i4⟩:=dT c5;have i5:=aa c5;clear e2 h0 h1 h2 h3 h4 h5 l4 c3 c4 c5 b0 h7 E F I J K M N O P Q n R U;refine aC (S:=(iz h)) 14 (by kernel_rfl) ?_ (λc=>?_)
   ·(first|exact ax _|exact aj _ _ c W|exact aj _ _ c ze|exact c)
   refine zT 0 ?_;refine zT 1 ?_;refine zT 2 ?_;refine zT 3 ?_;refine zT 4 ?_;refine zT 5 ?_;refine zT 6 ?_;refine zT 7 ?_;refine zT 8 ?_;refine zT 9 ?_;refine zT 10 ?_;refine zT 11 ?_;refine zT 12 ?_;refine zT 13 ?_;refine zF ?_;have l8:Qr h.heap.size h h.drew:=zr.drew;obtain⟨u,C⟩: ∃y:aA,y=⟨c2,t,sh,g8,g9,.slice a0 (1:Nat) a1,.slice a9 (1:Nat) rc⟩:=⟨_,rfl⟩;have e5:u.key=(t,sh):=by rw[C];rfl
   refine dt rfl _ _ _ rfl (a2.fresh c.1).at_.mp Ba nN underlying76 l3.out u rfl rfl (by rw[C];rfl) (λe6 i6 c6=>?_);have a3:g.ps=L.take k/\g.pm=m:=by rw[a8.out];exact⟨rfl,rfl⟩
   have e7:L.take (k+1)=L.take k++ [u]:=by
    rw[OH,l2.out,C];rfl
   have i7:=zh e7
   have i8: ∀z∈g.ps.map (λp=>(p.key,p)),z.1≠(t,sh):=by
    intro z l9 e;have m0:=a4.out.keys;have X:((L.take (k+1)).map aA.key).Nodup:=(List.Nodup.sublist ((List.take_sublist _ _).map _) m0);rw[e7,NU,PD] at X;obtain⟨x,i9,rfl⟩:=OI.1 l9;rw[a3.1] at i9;exact X.2.2 x.key (Pc i9) u.key (by simp) (by rw[e5];exact e)
   have j0:=a2.fresh c.1
   have j1:bL zP 343 dR aA.val e6 g.pm ((g.ps++ [u]).map λp=>(p.key,p)):=by
    have:=i6.out;rw[show aA.key ⟨c2,t,sh,g8,g9,.slice a0 (1:Nat) a1,.slice a9 (1:Nat) rc⟩=(t,sh) from rfl,(fP i8).2.1] at this;rw[NU];simpa[e5] using this
   have b1: ∀j,aD u.rv j\/aD u.bv j-> ¬g.fr h.drew q j:=λj a e=>h6.out j (by rw[C] at a;exact a) (a2.at_.fr_below c.1 e)
   have c7:=zh (j0.addp (p:=u) j1 c6.out (by rw[a3.2,d5.out];exact Nt _) (by rw[C];exact l6.below c.1) (by rw[C];exact e4.below c.1) (λj a=>⟨λe=>b1 j a (.inl e),λe=>b1 j a (.inr (.inl e)),λe=>b1 j a (.inr (.inr (.inl e))),λe=>b1 j a (.inr (.inr (.inr e)))⟩));obtain⟨b2,c8⟩: ∃y:aM,y={g with ps:=g.ps++ [u]}:=⟨_,rfl⟩;rw[<-c8] at c7;have j2:=zh c8;have j3:=c6.out.keep (show h.drew.heap[e3]?=_ from l5.out) (by rw[a3.2];exact λe=>l7.out e.symm)
   have m1:=e4.ch_ (show Ch (·=m) h e6 by have:=c6.out;rw[a3.2] at this;exact⟨this.os,this.tape,this.output,this.size,this.block⟩) (λj a e=>by
    rw[e] at a;have b8:=a2.at_.mp;rw[a3.2] at b8;exact jm b8 e4 a)
   have m2:=zh (show∀j,aD (.slice a0 (1:Nat) a1) j-> ¬b2.V.own b2.bk j from λj a e=>h6.out j (.inr a) (by rw[c8] at e;exact .inr (.inr (.inl e))));obtain⟨E,F,I,J,K,M,N,O,P,Q,Y,n,R,U⟩:=c7.out.at_.cells;have f:=aa c7.out.at_.blk;obtain⟨h8,h9,i0,i1,i2,i3,i4⟩:=dT j3;have i5:=aa j3;have m3:=zh C;clear i6 c6 j1 b1 j0 i8 e7 a3 e5 l8 c8 c E F I J K M N O P Q Y R U C;go_wp2_with fail;refine aC (S:=(iz e6)) 9 (by kernel_rfl) ?_ (λc=>?_)
   ·(first|exact ax _|exact aj _ _ c W|exact aj _ _ c ze|exact c)
   refine zT 0 ?_;refine zT 1 ?_;refine zT 2 ?_;refine zT 3 ?_;refine zT 4 ?_;refine zT 6 ?_;refine zT 7 ?_;refine zT 8 ?_;refine zO 5 λk1 d6=>?_
   go_simp;refine zb (yL t _) λw7 W=>?_
   refine zE d6 (by first|exact ax _|exact aj _ _ c W|exact aj _ _ c ze|exact c) λc=>?_
   refine zF ?_;go_wp2_with fail;have b3:=c7.out.fresh c.1;have D:b2.bk=l/\b2.V=r:=by rw[j2.out,a8.out];exact⟨rfl,rfl⟩
   have e8:=b3.at_.led;rw[D.1] at e8 n;have e9:=CV (q:=q) (who:=fZ t) e8 ((c.2 q 11 f).trans n) (λe=>b3.at_.nq q (.inl (by rw[D.1];exact e)) rfl) (m1.below c.1) (λj a e=>m2.out j a (by rw[D.1];exact e)) (by rw[D.2,d9.out];exact g7.out);rw[D.2] at e9;refine e9.mono ?_;clear e9 e8 n f h8 h9 i0 i1 i2 i3 i4 i5;rintro e n9 ⟨b4,rfl,f0,j4⟩;have m4:=b3.trans (b3.at_.led' (by rw[D.1,D.2];exact f0));have m5:=zh (show({b2 with V:=b4}:aM)={S with ps:=L.take (k+1),pm:=m,bk:=l,V:=b4} by rw[j2.out,i7.out,a8.out])
   have m6:=zh (show b4.pure=dm (L.take (k+1)) by
    rw[j4,d9.out,i7.out];unfold dm;rw[OS,m3.out];rfl)
   have m7:=zh (show∀j,b4.own l j->w.heap.size<=j from λj a=>by
    rcases f0.own j a with X|X
    ·exact g1.out j X
    ·have:=b3.ch.size;omega)
   clear f0 j4 D c;go_wp2_with fail;refine⟨⟨k+1,b4,by omega,rfl,zh ?_,m6,m7⟩,by simp only[intOf];omega⟩;have Z:=m4;rw[m5.out] at Z;exact Z
  ·have m8:k=a5:=by omega
   have f1:L.take k=L:=NC (by rw[m8,d0.out];exact Nt _);have m9:=zh (show g={S with ps:=L,pm:=m,bk:=l,V:=r} by rw[a8.out,f1]);have n0:=zh (show r.pure=dm L by rw[d9.out,f1]);clear f1;go_wp2;refine NG (results_none rfl _ _ _) rfl ⟨m,l,r,rfl,?_,n0.out,by rw[d5.out];exact Nt _,g1.out⟩;have Z:=s.out;rw[m9.out] at Z;exact Z
end
section
variable{w w' w1 W u u2:Qm}{q m l q':Nat}{rest rest':List Qn}{T T':Qp}{S S' S1:aM}{F:Nat->Prop}{V V':dn}{p:aA}{dp B c:Nat}{d:DV}
def bD.copy(a:bD w q rest T S)(f:w.heap[q']?=some (.cells (jC S++rest').toArray T'))(d: ∀k,S.ext q k\/cL w S.dp k->k≠q'):bD w q' rest' T' S:=
 ⟨f,a.disk,a.keep,a.led,a.mp,a.rows,a.log,λk c e=>by
  rcases c with c|c
  ·exact d k (.inr e) c
  ·exact a.nd k (.inr c) e,λk c=>d k (.inl (.inr c)),a.nl,a.ng⟩
def IS(n:bg w B dp c d)(a:d.keep= [])(o:Qr w.heap.size w w')(hq:w.heap.size<=q)(v:w.heap.size<=m)(j: ∀k,V.own l k->w.heap.size<=k/\k≠q/\k≠m)(y:m≠q)
 (s:w'.heap[q]?=some (.cells (jC (⟨dp,B,c,d,0,0,[],m,l,V,none,0⟩:aM)).toArray T)) (t:bL zP 343 dR aA.val w' m ([]:List ((Int×Int)×aA))) (u:cq w' l V):bD w' q [] T (⟨dp,B,c,d,0,0,[],m,l,V,none,0⟩:aM):=by
 have g: ∀k,aM.still (⟨dp,B,c,d,0,0,[],m,l,V,none,0⟩:aM) k->k=m:=λk a=>by
  rcases a with a|⟨p,h,-⟩
  ·exact a
  ·cases h
 have f: ∀k,¬aM.logb (⟨dp,B,c,d,0,0,[],m,l,V,none,0⟩:aM) k:=λk ⟨x,i,_⟩=>by cases i
 refine⟨by rw[OJ];exact s,n.step o,a,u,t,(λp h=>by cases h),(λx i=>by cases i),λk a e=>?_,λk a=>?_,λk a e=>?_,λk a=>(f k a).elim⟩
 ·have r:w.heap.size<=k:=by
   rcases a with a|a|a|a
   ·omega
   ·exact(j k a).1
   ·have:=g k a;omega
   ·exact(f k a).elim
  exact ko n o r e
 ·rcases a with a|a|a
  ·exact(j k a).2.1
  ·have:=g k a;omega
  ·exact(f k a).elim
 ·rcases a with a|a
  ·exact(j k e).2.2 (g k a)
  ·exact f k a
def Ge(w:Qm)(dp B c:Nat)(d:DV)(e:Qq)(w':Qm):Prop:=
 ∃(q m l:Nat) (V:dn),e= .returned (.pointer (some ⟨q,0,none⟩))/\bD w' q [] 80 (⟨dp,B,c,d,0,0,[],m,l,V,none,0⟩:aM)/\V.pure=dm []/\Qr w.heap.size w w'/\(w.heap.size<=q/\w.heap.size<=m/\ ∀k,V.own l k->w.heap.size<=k)
def pC{e:Qm}(o:bg w B dp c d)(a:d.keep= [])(g:Qr w.heap.size w W)(i:Qr W.heap.size W e)(j:bL zP 343 dR aA.val e m ([]:List ((Int×Int)×aA)))(n:cq e l V)(t:W.heap.size<=m)(h: ∀k,V.own l k->W.heap.size<=k/\k≠m)(p:V.pure=(⟨38,52,[]⟩,[])):
 Ge w dp B c d (.returned (.pointer (some ⟨e.heap.size,0,none⟩))) (e.alloc (.cells #[(90:Int),(2:Int),(18:Int),(28:Int),(10:Int),(38:Int),(26:Int),dp,.int .u64 0,.int .u64 0,.map (some m),l,.pointer none,()] 80)):=by
 have f:Qr w.heap.size w e:=g.trans (i.mono g.size);have q:=g.size;have r:=i.size;have s:=j.lt;refine⟨e.heap.size,m,l,V,rfl,IS o a (ai f ze) f.size zo (λk a=>⟨by have:=h k a;omega,by have:=n.lt k a;omega,(h k a).2⟩) zo (Nu _ _) (j.below ze) (n.below ze),p,ai f ze,f.size,zo,λk a=>by have:=h k a;omega⟩
def wE(a:iz W u):bL zP 343 dR aA.val (u.alloc (.map #[] 0)) u.heap.size ([]:List ((Int×Int)×aA)):=bL.new _ _ _ _ _
def rn(v:Qs (bg w B dp c d))(x:Qs (d.keep= [])):Qo zP 114 #[.pointer (some ⟨dp,0,none⟩),pa 90] w (Ge w dp B c d):=by
 rw[show pa 90= .agg #[.int .i64 90,.int .i64 2,.int .i64 18,.int .i64 28,.int .i64 10,.int .i64 38,.int .i64 26] from rfl];have M:= @run_makeMap zP;go_enter func114,ntmps114;go_wp2_with fail;obtain⟨W,t⟩: ∃W,W=w.alloc (.cells #[.int .i64 90,.int .i64 2,.int .i64 18,.int .i64 28,.int .i64 10,.int .i64 38,.int .i64 26] 75):=⟨_,rfl⟩;have u:=zh (show Qr w.heap.size w W by rw[t];exact ak _ _);have y:W.heap[w.heap.size]?=some (.cells #[.int .i64 90,.int .i64 2,.int .i64 18,.int .i64 28,.int .i64 10,.int .i64 38,.int .i64 26] 75):=by rw[t];exact Nu _ _
 have N:=aa y;obtain⟨c0,O,P,Q,R,T,U⟩:=dT y;rw[<-t];clear t y;refine aC (S:=(iz W)) 14 (by kernel_rfl) ?_ (λa=>?_)
 ·(first|exact ax _|exact aj _ _ a f|exact aj _ _ a (ak _ _))
 refine zT 0 ?_;refine zT 1 ?_;refine zT 3 ?_;refine zT 4 ?_;refine zT 5 ?_;refine zT 6 ?_;refine zT 7 ?_;refine zT 8 ?_;refine zT 9 ?_;refine fV (i:=2) (j:=10) rfl rfl (by kernel_rfl) (λo g=>?_) (λo g=>?_)
 ·go_simp
  have m:=zh (wE a);have A:=zh a.1.size;have C:=zh (ai a.1 (ak _ (.map #[] 0)));(try have D:=zh (n.out.below (ak _ (.map #[] 0))));(try have E:=zh n.out.lt);refine zE g (by first|exact ax _|exact aj _ _ a f|exact aj _ _ a (ak _ _)) λa=>?_
  refine zO 10 λo g=>?_
  go_simp;refine(ra 38 52 _ (by decide) (by decide)).mono ?_;rintro e u2 ⟨l,V,rfl,n,p,q,f⟩;have r:=zh p;have F:=zh (ai a.1 f);have J:=zh a.1.size;(try have H:=zh (m.out.below f));(try have K:=zh m.out.lt);clear p;refine zE g (by first|exact ax _|exact aj _ _ a f|exact aj _ _ a (ak _ _)) λa=>?_
  refine zT 11 ?_;refine zO 12 λo g=>?_
  go_simp
  skip
  refine zE g (by first|exact ax _|exact aj _ _ a f|exact aj _ _ a (ak _ _)) λa=>?_
  refine zT 13 ?_;refine zH ?_;go_wp2;go_ret
  first
   |exact pC v.out x.out u.out F.out H.out n.out (Nt _) (λk h=>by have s:=q.out k h;have L:W.heap.size+1<=k:=(by simpa using s);exact⟨by omega,λe=>by have I:k=W.heap.size:=e;omega⟩) r.out
   |(have hq:=pC v.out x.out u.out C.out m.out D.out A.out (λk h=>⟨q.out k h,λe=>by have s:=E.out k h;have I:k=u2.heap.size:=e;omega⟩) r.out
     rw[Pl] at hq;exact hq)
 ·go_simp
  refine(ra 38 52 _ (by decide) (by decide)).mono ?_;rintro e u2 ⟨l,V,rfl,n,p,q,f⟩;have r:=zh p;have F:=zh (ai a.1 f);have J:=zh a.1.size;(try have H:=zh (m.out.below f));(try have K:=zh m.out.lt);clear p;refine zE g (by first|exact ax _|exact aj _ _ a f|exact aj _ _ a (ak _ _)) λa=>?_
  refine zO 2 λo g=>?_
  go_simp;have m:=zh (wE a);have A:=zh a.1.size;have C:=zh (ai a.1 (ak _ (.map #[] 0)));(try have D:=zh (n.out.below (ak _ (.map #[] 0))));(try have E:=zh n.out.lt);refine zE g (by first|exact ax _|exact aj _ _ a f|exact aj _ _ a (ak _ _)) λa=>?_
  refine zT 11 ?_;refine zO 12 λo g=>?_
  go_simp
  skip
  refine zE g (by first|exact ax _|exact aj _ _ a f|exact aj _ _ a (ak _ _)) λa=>?_
  refine zT 13 ?_;refine zH ?_;go_wp2;go_ret
  first
   |exact pC v.out x.out u.out F.out H.out n.out (Nt _) (λk h=>by have s:=q.out k h;have L:W.heap.size+1<=k:=(by simpa using s);exact⟨by omega,λe=>by have I:k=W.heap.size:=e;omega⟩) r.out
   |(have hq:=pC v.out x.out u.out C.out m.out D.out A.out (λk h=>⟨q.out k h,λe=>by have s:=E.out k h;have I:k=u2.heap.size:=e;omega⟩) r.out
     rw[Pl] at hq;exact hq)
end
abbrev PP:=Int×Int×Int×Int×ay
def aA.pp(p:aA):PP:=(p.id,p.tier,p.shard,p.blk,p.r)
structure kZ where
 id:Int
 p:LP
 c:Nat
 d:DV
 out:List PP
def oL(id:Int)(y:cx):ByteArray:=aO (fs id y.1 y.2.1 0 1 [y.2.2])
def eZ(p:LP):Int:=(cb p.1 52).headD 0
def oM(s:kZ)(y:cx):kZ:=⟨s.id+1,oH (dj s.p bA 1) bA [eZ s.p],s.c+1,s.d.spent.put (eZ s.p) (oL (s.id+1) y),s.out++ [(s.id+1,y.1,y.2.1,eZ s.p,y.2.2)]⟩
def bY(ps:List ((Int×Int)×PP))(s:kZ)(y:cx):kZ:=match bf ps (y.1,y.2.1) with
 |some p=>{s with out:=s.out++ [p]}
 |none=>oM s y
structure Gf(s:kZ)(y:cx):Prop where
 id:0<=s.id/\s.id<=1000000
 seg:fJ (s.id+1) y.1 y.2.1
 h0:s.p.ok
 h1:1<=s.p.open_
 h2:(dj s.p bA 1).ok
 h3:0<=(dk s.p.2 bA).1
 h4:(1:Int)<=s.p.1.n-s.p.1.used.length
 k:(cb s.p.1 52).take 1= [eZ s.p]
 kb:0<=eZ s.p/\eZ s.p<90
 sz:(oL (s.id+1) y).size=256
def rZ(ps:List ((Int×Int)×PP))(s:kZ)(y:cx):Prop:=match bf ps (y.1,y.2.1) with
 |some p=>p.2.2.2.2=y.2.2
 |none=>Gf s y
def kf(ps:List ((Int×Int)×PP))(s:kZ)(ys:List cx)(k:Nat):kZ:=(ys.take k).foldl (bY ps) s
def kE{ps:List ((Int×Int)×PP)}{s:kZ}{ys:List cx}{k:Nat}{y:cx}(a:ys[k]?=some y):kf ps s ys (k+1)=bY ps (kf ps s ys k) y:=by
 unfold kf;rw[OH,a,OS];rfl
def aM.sv(S:aM)(s:kZ)(V:dn):aM:={S with id:=s.id,V:=V,c:=s.c,d:=s.d}
section
variable{w w' w1 wk w7:Qm}{q:Nat}{rest:List Qn}{T:Qp}{S S' S1:aM}{s s':kZ}{v v':Qn}{V V':dn}{p:aA}{n:Int}
def bD.still_fr{k:Nat}(a:bD w q rest T S)(c:S.still k): ¬S.fr w q k:=λe=>by
 rcases e with e|e|e|e
 ·exact a.nq k (.inr (.inl c)) e
 ·exact a.nd k (.inr (.inr (.inl c))) e
 ·exact a.nl k (.inl c) e
 ·exact a.ng k e c
structure ro(w1:Qm)(q:Nat)(rest:List Qn)(T:Qp)(S:aM)(s:kZ)(v:Qn)(wk:Qm)(L:List aA)(V:dn):Prop where
 out:L.map aA.pp=s.out
 pure:V.pure=s.p
 tto:bz w1 q rest T S wk (S.sv s V)
 own:wk.ownsRow w1.heap.size 340 7 v L.length (L.flatMap aA.cells)
 nf: ∀g,v.ownBlock=some g-> ¬(S.sv s V).fr wk q g
 rows: ∀p∈L,aB 7 ay.cells wk p.rv [p.r]/\aE wk p.bv [p.blk]
 nb: ∀p∈L,∀j,aD p.rv j\/aD p.bv j-> ¬(S.sv s V).fr wk q j/\v.ownBlock≠some j
def gH(c:aB 7 ay.cells w p.rv [p.r]/\aE w p.bv [p.blk]){j:Nat}(a:aD p.rv j\/aD p.bv j):j<w.heap.size:=by
 rcases a with a|a
 ·exact jl c.1 a
 ·exact iV c.2 a
def ro.fresh{L:List aA}(a:ro w1 q rest T S s v wk L V)(c:Qr wk.heap.size wk w'):ro w1 q rest T S s v w' L V:=
 ⟨a.out,a.pure,a.tto.fresh c,aZ a.own λg f=>c.block g (ar a.own f).2.1,λg f e=>a.nf g f (a.tto.at_.fr_below c e),λp d=>⟨(a.rows p d).1.below c,(a.rows p d).2.below c⟩,λp d j h=>⟨λe=>(a.nb p d j h).1 (a.tto.at_.fr_below c e),(a.nb p d j h).2⟩⟩
def ro.turn{L:List aA}(a:ro w1 q rest T S s v wk L V)(e:bz wk q rest T (S.sv s V) w' (S.sv s' V'))(c:V'.pure=s'.p)(h:s'.out=s.out):ro w1 q rest T S s' v w' L V':=
 ⟨a.out.trans h.symm,c,a.tto.trans e,aZ a.own λg f=>(e.out_ (ar a.own f).2.1 (a.nf g f)).1,λg f=>(e.out_ (ar a.own f).2.1 (a.nf g f)).2,
  λp c=>⟨(a.rows p c).1.ch e.ch λj d=>(a.nb p c j (.inl d)).1,(a.rows p c).2.ch_ e.ch λj d=>(a.nb p c j (.inr d)).1⟩,
  λp c j d=>⟨(e.out_ (gH (a.rows p c) d) (a.nb p c j d).1).2,(a.nb p c j d).2⟩⟩
def ro.push{L:List aA}(c:ro w1 q rest T S s v wk L V)(w:bD w1 q rest T S)(x:w7.ownsRow w1.heap.size 340 7 v' (L.length+1) (L.flatMap aA.cells++p.cells))(h:wk.grownBy w7 v.ownBlock)(d:fM wk v v')
 (A:aB 7 ay.cells wk p.rv [p.r]/\aE wk p.bv [p.blk]) (n: ∀j,aD p.rv j\/aD p.bv j-> ¬(S.sv s V).fr wk q j/\v.ownBlock≠some j):ro w1 q rest T S {s with out:=s.out++ [p.pp]} v' w7 (L++ [p]) V:=by
 have m:Ch (λk=>v.ownBlock=some k) wk w7:=⟨h.os,h.tape,h.output,h.size,λk f n=>h.block k f λe=>n e.symm⟩
 have u:bz w1 q rest T S w7 (S.sv s V):=c.tto.aside m λk f=>⟨(ar c.own f).1,c.nf k f,λe=>by
  have r:=(ar c.own f).1;have t:=w.lt (k:=k) (.inr (.inr (.inl e)));omega⟩
 have o: ∀k,(S.sv s V).fr w7 q k->(S.sv s V).fr wk q k:=λk f=>by
  rcases f with e|e|e
  ·exact .inl e
  ·refine .inr (.inl (((c.tto.at_.disk.ch_ c.tto.at_.keep m (λk f e=>?_)).2 k).1 e))
   exact c.nf k e (.inr (.inl f))
  ·exact .inr (.inr e)
 have i: ∀y∈L++ [p],(aB 7 ay.cells wk y.rv [y.r]/\aE wk y.bv [y.blk])/\ ∀j,aD y.rv j\/aD y.bv j-> ¬(S.sv s V).fr wk q j/\v.ownBlock≠some j:=λy a=>by
  rcases Og.1 a with a|a
  ·exact⟨c.rows y a,c.nb y a⟩
  ·obtain rfl:=Nz.1 a
   exact⟨A,n⟩
 refine⟨by rw[NU,c.out];rfl,c.pure,u,?_,λg h e=>?_,λy a=>⟨(i y a).1.1.ch m λj l=>((i y a).2 j (.inl l)).2,(i y a).1.2.ch_ m λj l=>((i y a).2 j (.inr l)).2⟩,λy a j l=>⟨λe=>((i y a).2 j l).1 (o j e),λe=>?_⟩⟩
 ·rw[NK,Nw]
  simpa using x
 ·rcases d with d|d
  ·rw[d] at h
   exact c.nf g h (o g e)
  ·have r:=d g h
   have t:=c.tto.at_.fr_lt (o g e);omega
 ·rcases d with d|d
  ·rw[d] at e
   exact((i y a).2 j l).2 e
  ·have r:=d j e
   have t:=gH (i y a).1 l;omega
def Gg(d:bD w1 q rest T S):ro w1 q rest T S ⟨S.id,S.V.pure,S.c,S.d,[]⟩ (.slice none 0 0) w1 [] S.V:=
 ⟨rfl,rfl,bz.refl d zr,World.ownsRow_nil _ _ _ _,(λg c=>by cases c),(λp a=>by cases a),(λp a=>by cases a)⟩
def Dc{y:cx}(d:bD w q rest T S)(a:aQ y.1/\aQ y.2.1):(Instr.lookup 76 (.map (some S.pm)) (dR (y.1,y.2.1)) true).run zP w= .ok (hC (.agg #[.int .u64 0,(),(),(),(),z0,z0]) aA.val true (bf (S.ps.map λp=>(p.key,p)) (y.1,y.2.1))) w:=by
 obtain⟨ql,c⟩:=FV (p:=(y.1,y.2.1)) a.1 a.2;exact d.mp.look Ba nN underlying76 zk true c
end
def Kv(p:PP):bj:=⟨p.1,p.2.1,p.2.2.1,p.2.2.2.1,.slice none 0 0⟩
def gI(st:au)(gen id:Int)(out:List PP):bI:={oJ st with gen:=gen,id:=id,es:=out.map Kv}
def nT(S:aM):List ((Int×Int)×PP):=S.ps.map λp=>(p.key,p.pp)
def Gh(S:aM):kZ:=⟨S.id,S.V.pure,S.c,S.d,[]⟩
def dq(S:aM)(st:au)(k:Nat):kZ:=kf (nT S) (Gh S) (cA st) k
def bm(S:aM)(st:au):kZ:=dq S st (cA st).length
def hR(L:List PP):LP:=L.foldl (λP p=>AZ P (fZ p.2.1) [p.2.2.2.1]) (⟨38,52,[]⟩,[])
structure dZ(S:aM)(st:au)(n:Int):Prop where
 ok:st.ok
 full:st.full
 now:aQ st.τ.r.now
 dg:DG S.d n
 n:n<=900000000
 steps: ∀k y,(cA st)[k]?=some y->(aQ y.1/\aQ y.2.1)/\y.2.2.good/\rZ (nT S) (dq S st k) y
 len:(cA st).length<=20
 c:S.c<=900000
 gen:0<=S.gen/\S.gen<=1000000
 id:0<=(bm S st).id/\(bm S st).id<=1000000
 valid:(gI st (S.gen+1) (bm S st).id (bm S st).out).valid
 short:(gI st (S.gen+1) (bm S st).id (bm S st).out).short
 bytes:(gI st (S.gen+1) (bm S st).id (bm S st).out).bytes.length<=2560
 take: ∀k p,(bm S st).out[k]?=some p->iw (hR ((bm S st).out.take k)) (fZ p.2.1) [p.2.2.2.1]
section
variable{w w' w1 wk:Qm}{q:Nat}{rest:List Qn}{T:Qp}{S S' S1:aM}{st:au}{b:SB}{n:Int}{s:kZ}{ys:List cx}{ps:List ((Int×Int)×PP)}
def yR: ∀k,k<=ys.length->(kf ps s ys k).c<=s.c+k
 |0,_=>by simp[kf]
 |k+1,c=>by
  obtain⟨y,a⟩: ∃y,ys[k]?=some y:=⟨_,Np zo⟩;rw[kE a];have:=yR k zo;unfold bY;split
  ·dsimp only;omega
  ·unfold oM;dsimp only;omega
def DG.mono{d:DV}{m:Int}(a:DG d n)(c:n<=m):DG d m:=⟨a.on,a.armed,a.keep,a.blocks,a.writes.1,by have:=a.writes.2;omega⟩
def pD(c:DG s.d n): ∀k,k<=ys.length->DG (kf ps s ys k).d (n+k)
 |0,_=>by simpa[kf] using c
 |k+1,e=>by
  obtain⟨y,d⟩: ∃y,ys[k]?=some y:=⟨_,Np zo⟩;rw[kE d];have a:=pD c k zo;unfold bY;split
  ·exact a.mono zo
  ·have:=a.next (eZ (kf ps s ys k).p) (oL ((kf ps s ys k).id+1) y)
   exact this.mono zo
def IT(L:List aA):(L.map aA.ent).flatMap bj.bytes=((L.map aA.pp).map Kv).flatMap bj.bytes:=by
 induction L with
 |nil=>rfl
 |cons p L a=>simp only[Oq,NZ,a];rfl
def Dd{L:List aA}(a:L.map aA.pp=s.out)(d:S.id=s.id):(fB S st L).bytes=(gI st (S.gen+1) s.id s.out).bytes:=by
 have c:(fB S st L).head=(gI st (S.gen+1) s.id s.out).head:=by
  unfold bI.head fB gI;rw[<-a,<-d];simp[bI.toT]
 show(fB S st L).head++_=(gI st (S.gen+1) s.id s.out).head++_;rw[c,<-a];exact Of _ (IT L)
def De{L:List aA}(i:L.map aA.pp=s.out)(r:S.id=s.id)(t:(gI st (S.gen+1) s.id s.out).valid):(fB S st L).valid:=by
 obtain⟨c,a,h⟩:=t
 have j: ∀{k:Type} (f:bj->k) (g:PP->k),(∀p:aA,f p.ent=g p.pp)->(∀p:PP,f (Kv p)=g p)->(L.map aA.ent).map f=(s.out.map Kv).map f:=λf g c a=>by
  rw[<-i];simp only[Py];refine List.map_congr_left λp l=>?_
  show f p.ent=f (Kv p.pp);rw[c,a]
 refine⟨⟨c.gen,c.now,c.pol,c.fl⟩,?_,?_⟩
 ·rcases a with a|a
  ·exact .inl a
  ·exact .inr ⟨a.pol,a.src,a.bound,a.done⟩
 ·refine⟨?_,λe m=>?_,?_,?_⟩
  ·have:=h.len
   show(L.map aA.ent).length<=90;rw[OC];have d:=Of List.length i;rw[OC] at d;have n:(s.out.map Kv).length<=90:=this;rw[OC] at n;omega
  ·obtain⟨p,l,rfl⟩:=OI.1 m
   have o:Kv p.pp∈(gI st (S.gen+1) s.id s.out).es:=Pc (by rw[<-i];exact Pc l);have:=h.ok _ o;have q:(fB S st L).id=s.id:=r;rw[q];exact this
  ·have:=h.ps
   have d:=j (λe=>(e.tier,e.shard)) (λp=>(p.2.1,p.2.2.1)) (λ_=>rfl) (λ_=>rfl);show((L.map aA.ent).map _).Nodup;rw[d];exact this
  ·have:=h.bs
   have d:=j (λe=>e.blk) (λp=>p.2.2.2.1) (λ_=>rfl) (λ_=>rfl);show((L.map aA.ent).map _).Nodup;rw[d];exact this
def Bc(L:List aA):dm L=hR (L.map aA.pp):=by
 unfold dm hR;rw[List.foldl_map];rfl
end
end Go.Proofs.YtdflhgceeloijaaGreatDoor
