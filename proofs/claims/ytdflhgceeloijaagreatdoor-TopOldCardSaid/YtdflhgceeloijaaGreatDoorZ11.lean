import Derived.Test.YtdflhgceeloijaaGreatDoorZ1
import Derived.Test.YtdflhgceeloijaaGreatDoorZ10
set_option linter.all false
set_option maxRecDepth 100000
set_option maxHeartbeats 16000000
namespace Go.Proofs.YtdflhgceeloijaaGreatDoor
open Go Go.RowKit Tryz
open Tryz renaming prog→zP
open Go renaming World→Qm,Value→Qn,Calls→Qo,TypeId→Qp,Ending→Qq
open Go.RowKit renaming Below→Qr,Hid→Qs
structure rT(B:Nat)(m:Int)(w:Qm)(p dp e:Nat)(nm:ByteArray)(pv:Qn)(l:List ah)(tn:ByteArray)(tv:Qn)(tl:List ah)(S:aM)(b:SB)(σ:au):Prop where
 top:tu w p dp e (.slice none 0 0) none nm pv l tn tv tl
 eng:bB w e [] 82 S b σ
 out:uA w p e pv tv S b
 gl:cl B w
 ge: ∀k,EF w e S b k->B<=k
 gp:B<=p
 c0:w.cell? ⟨0,0,none⟩=some (.int .i64 m)/\0<B
def oT(S:aM)(σ':au)(S2:aM):Prop:= ∃(L:List aA) (V:dn) (m l t c:Nat),S2={S with gen:=S.gen+1,id:=(bm S σ').id,ps:=L,pm:=m,bk:=l,V:=V,c:=c,d:=dz S σ',lg:=some (t,LV.new 2 16 (S.gen+1))}/\L.map aA.pp=(bm S σ').out/\V.pure=hR (bm S σ').out/\c<=S.c+31
def Jj{B:Nat}{w w':Qm}(a:Qr B w.drew w'):Qr B w w':=⟨a.os,a.tape,a.output,a.size,a.block⟩
section
variable{w w':Qm}{B p dp e:Nat}{m:Int}{pv tv:Qn}{nm tn:ByteArray}{l tl:List ah}{S S2:aM}{b b2:SB}{σ σ2:au}
def rT.step(d:rT B m w p dp e nm pv l tn tv tl S b σ)(h:bZ w e [] 82 S b w' S2 b2 σ2):rT B m w' p dp e nm pv l tn tv tl S2 b2 σ2/\Qr B w w':=by
 have n:Qr B w w':=h.ch.below d.ge d.gl.1;have q:=(h.out_ (aa d.top.blk) d.out.blk)
 have r: ∀{v:Qn} {l:List ah},aH w v l-> ∀j,aD v j->j<w.heap.size:=λs j f=>by
  obtain⟨a,c,rfl,-,-,t⟩:=s;cases a with
  |none=>exact f.elim
  |some A=>
   obtain⟨u,i⟩:=f;obtain⟨g,z,o,C,-⟩:=t (λx=>u (by rw[x];rfl));injection o with o
   rw[o] at i;have i:g=j:=i;omega
 refine⟨⟨⟨q.1.trans d.top.blk,eO _ _ _,fD d.top.pol h.ch d.out.pol,fD d.top.to_ h.ch d.out.to_⟩,h.at_,⟨q.2,λj f=>(h.out_ (r d.top.pol j f) (d.out.pol j f)).2,λj f=>(h.out_ (r d.top.to_ j f) (d.out.to_ j f)).2,d.out.np⟩,d.gl.step n,λk y=>(h.own k y).elim (d.ge k) λi=>Nq d.gl.1 i,d.gp,?_,d.c0.2⟩,n⟩;exact(n.cell (p:=⟨0,0,none⟩) d.c0.2).trans d.c0.1
def rT.set{g:Qm}{nm2 t:ByteArray}{n o:Qn}{l2 u:List ah}(c:rT B m w p dp e nm pv l tn tv tl S b σ)(h:Ch (·=p) w g)(x:g.heap[p]?=some (.cells #[dp,e,z0,nm2,n,t,o] 34))
 (q:aH w n l2/\ ∀j,aD n j-> ¬EF w e S b j/\j≠p) (r:aH w o u/\ ∀j,aD o j-> ¬EF w e S b j/\j≠p):rT B m g p dp e nm2 n l2 t o u S b σ/\Qr B w g:=by
 have s:Qr B w g:=h.below (λj a=>by have a:j=p:=a;rw[a];exact c.gp) c.gl.1;have v:=(c.eng.sto.disk.ch_ c.eng.sto.keep h λk f d=>c.out.blk (by have d:k=p:=d;rw[<-d];exact .inl (.inr f))).2;have i: ∀k,EF g e S b k->EF w e S b k:=λk f=>f.imp (λf=>f.imp id (v k).1) id
 refine⟨⟨⟨x,eO _ _ _,fD q.1 h λj a=>(q.2 j a).2,fD r.1 h λj a=>(r.2 j a).2⟩,c.eng.ch_ h λk f d=>c.out.blk (by have d:k=p:=d;rw[<-d];exact f),⟨λd=>c.out.blk (i _ d),λj a d=>(q.2 j a).1 (i _ d),λj a d=>(r.2 j a).1 (i _ d),λj a=>a.elim (λa=>(q.2 j a).2) λa=>(r.2 j a).2⟩,c.gl.step s,λk f=>c.ge k (i k f),c.gp,?_,c.c0.2⟩,s⟩;exact(s.cell (p:=⟨0,0,none⟩) c.c0.2).trans c.c0.1
def rT.old(a:rT B m w p dp e nm pv l tn tv tl S b σ):(aH w pv l/\ ∀j,aD pv j-> ¬EF w e S b j/\j≠p)/\(aH w tv tl/\ ∀j,aD tv j-> ¬EF w e S b j/\j≠p):=⟨⟨a.top.pol,λj c=>⟨a.out.pol j c,a.out.np j (.inl c)⟩⟩,a.top.to_,λj c=>⟨a.out.to_ j c,a.out.np j (.inr c)⟩⟩
def rT.below(a:rT B m w p dp e nm pv l tn tv tl S b σ)(c:Qr w.heap.size w w'):rT B m w' p dp e nm pv l tn tv tl S b σ:=(a.step (.refl a.eng c)).1
end
def Gy(B:Nat)(m:Int)(w:Qm)(p dp e:Nat)(nm:ByteArray)(l:List ah)(σ:au)(a:aM->Prop)(x:Qq)(w':Qm):Prop:=
 x= .returned (.bool true)/\ ∃pv S b,Qs (rT B m w' p dp e nm pv l nm pv l S b σ)/\Qs (a S)/\Qs (Qr B w w')
section
variable{w:Qm}{B p dp e:Nat}{m:Int}{pv tv:Qn}{nm tn:ByteArray}{l tl:List ah}{S:aM}{b:SB}{σ:au}
def wV{k:Int}{nm2:ByteArray}{l2:List ah}{P:PV}(f:Nat->au)(X:Nat->aM->Prop)(n:Nat){N:Int}(H:Qs (rT B m w p dp e nm pv l tn tv tl S b σ))(f7:fR (iW k) nm2 l2)(f8:cD nm2 l2=true)(f9:(iW k).size<=1000000)
 (g0:Qs (∀h,Qo zP 20 #[.string (iW k)] h (kG h nm2 l2)))
 (k4:Qs σ.ok) (k5:Qs (σ.sh=none)) (k6:Qs (P=bh σ.τ.r nm2 l2)) (g1:P.can σ.τ) (g2:cz σ.τ.tabs σ.τ.tabs.length+cw σ.τ P<=σ.room)
 (c4:Qs (f 0={σ with sh:=some (el.empty P (cw σ.τ P) 0)})) (g3:Qs ((n:Int)=P.steps)) (k7:Qs ((f n).sh=none)) (Y:Qs (∀i,i<=n->(f i).ok/\(f i).room=26))
 (g4: ∀i,i<n-> ∃x y z:Int,∀b h,bJ h b (f i)->Qo zP 77 #[b.s] h (fy h b (f (i+1)) (.tuple #[.agg #[x,y,z],()])))
 (g5:Qs (X 0 S)) (c5:Qs (∀i S1,i<=n->X i S1->dZ S1 (f i) N/\S1.bad=0/\ ∀S2,oT S1 (f i) S2->X (i+1) S2)):
 Qo zP 7 #[p,k] w (Gy B m w p dp e nm2 l2 (f n) (X (n+1))):=by
 have a6:=zh (And.intro f7 (And.intro f8 f9));have g6:=zh (And.intro g1 g2);have g7:=zh g4;have c6:=λh=>wO k h
 obtain⟨b0,b1⟩:=zx (iW k);rw[<-b1] at a6 g0;have c7:=zh (show∀h,Qo zP 19 #[k] h (aK h (.string b0)) by rw[b1];exact c6);clear f7 f8 f9 g1 g2 g4 c6 b1;obtain⟨c0,q,b3,C,D,I,J⟩:=dT H.top.blk;have g:=aa H.top.blk;clear c0 b3 C D I J;go_enter func7,ntmps7;go_wp2_with fail;have g8:=H.below (show Qr w.heap.size w w.drew from zr.drew);obtain⟨a7,O⟩:=zy (f 0)
 have c8:=λ(Z:Qm) (t:rT B m Z p dp e nm pv l tn tv tl S b σ)=>(show Qo zP 25 #[e,b0] Z (pE Z e [] 82 S b a7 (.tuple #[(),()])) from by
  have a:=c5 0 S zp g5;have r:=(Y 0 zp).2;rw[O];rw[c4] at a r⊢;have u:=g6.out;rw[k6] at a u⊢;exact oN t.gl t.eng t.ge b0 nm2 l2 m a6.1 a6.2.1 a6.2.2 t.c0.1 t.c0.2 k4 k5 u.1 u.2 a.1 a.2.1 r)
 have g9:=zh c8;clear c8;go_region_with (first|(refine(c7 _).mono ?_;rintro x Z ⟨rfl,c9⟩;have t:=g8.below c9;have h0:=zh c9;obtain⟨-,q,-⟩:=dT t.top.blk;have g:=aa t.top.blk)|(refine(g9 Z t).mono ?_;rintro x k8 ⟨rfl,b2,L,V,d0,d1,d2,C,b4,Q,a,r,u⟩;obtain⟨S2,b5⟩:=zx ({S with gen:=S.gen+1,id:=(bm S a7).id,ps:=L,pm:=d0,bk:=d1,V:=V,c:=C,d:=dz S a7,lg:=some (d2,LV.new 2 16 (S.gen+1))}:aM);rw[<-b5] at Q;have b6:=t.step Q;have SV:=zh (show oT S a7 S2 from⟨L,V,d0,d1,d2,C,b5,a,r,u⟩);clear Q a r u b5 b4))
 all_goals
  clear q g;go_wp2_with fail;refine(c7 _).mono ?_;rintro x h1 ⟨rfl,b7⟩;have a0:=b6.1.below b7;have h2:=zh (show Qr B w h1 from Jj (((h0.mono H.gl.1).trans b6.2).trans (b7.mono b6.1.gl.1)));clear b7;go_wp2_with fail;refine(g0 _).mono ?_;rintro x a1 ⟨d3,rfl,d4,d5,b8⟩;have R:=a0.below b8;have h3:=zh (show Qr B w a1 from h2.trans (b8.mono a0.gl.1));have h4:=zh (show aH a1 d3 l2/\ ∀j,aD d3 j-> ¬EF a1 e S2 b2 j/\j≠p from⟨d4,λj b9=>⟨λh5=>by have a:=a0.eng.lt (a0.eng.ef_below b8 h5);have r:=d5 j b9;omega,by have a:=aa a0.top.blk;have r:=d5 j b9;omega⟩⟩);obtain⟨E,F,rfl,-,-,-⟩:=id d4;have g:=aa R.top.blk;have c1:=λo=>ad (o:=o) R.top.blk
  obtain⟨-,q,-,-,-,I,J⟩:=dT R.top.blk;go_wp2_with fail;obtain⟨a2,A⟩:=zx ((a1.setCell ⟨p,5,none⟩ (.string nm2)).setCell ⟨p,6,none⟩ (.slice E l2.length F):Qm);have a3:a2.heap[p]?=some (.cells #[dp,e,z0,nm,pv,nm2,.slice E l2.length F] 34):=by rw[A,al (al R.top.blk _) _];rfl
  have a4:Ch (·=p) a1 a2:=by
   rw[A]
   iterate 2 refine aP ?_ (.inl rfl)
   exact Ch.refl _ _
  have K:=R.set a4 a3 R.old.1 h4;rw[<-A];have T:=zh K.1;have h6:=h3.trans K.2;clear A a3 a4 K c1 q I J g;obtain⟨-,q,-,-,-,-,-⟩:=dT T.top.blk;have g:=aa T.top.blk;obtain⟨M,d6⟩:=zy (l2.length:Nat);rw[<-d6] at T⊢;go_wp2_with fail;refine(hT T.eng (by rw[O];exact(Y 0 zp).1)).mono ?_;rintro x k9 ⟨l0,rfl,h7,h8,d7⟩;have d8:=T.below d7;have h9:=h6.trans (d7.mono T.gl.1);clear q g;go_wp2_with fail;refine(kc (σ:=el.empty P (cw σ.τ P) 0) h7 (by rw[O];exact(Y 0 zp).1) (by rw[O,c4])).mono ?_;rintro x l1 ⟨c,rfl,i0,d9⟩;have e0:=d8.below d9;have i1:=h9.trans (d9.mono d8.gl.1);obtain⟨l3,l4,l5,l6,U⟩:=i0;have i2:=zh U.plan;have e1:=zh (show vT P.l from by have i3:=((Y 0 zp).1).sh _ (by rw[c4];rfl);exact cE i3.pol);obtain⟨i4,i5,i6,-,-,-⟩:=di U.blk;have g:=aa U.blk;obtain⟨l7,l8,i7,-⟩:=id U.tiers.1;obtain⟨l9,m0,i8,-⟩:=id U.src.1;subst i7 i8;clear U;go_wp2_with fail;refine zb (jj (P:=P) i2 e1) λi9 e2=>?_
  have j0:=e0.below e2;have j1:=i1.trans (e2.mono e0.gl.1);rw[<-g3];have m1:n<=42:=by have a:=g3.out;have r:=PV.fills_bd e1;unfold PV.steps at a;omega
  clear i4 i5 i6 g;go_wp2_with fail;have j2:=zh (show∃S1 W,rT B m i9 p dp e nm pv l nm2 (.slice E M F) l2 S1 W (f 0)/\X 1 S1 from⟨S2,b2,by rw[<-O];exact j0,(c5 0 S zp g5).2.2 S2 (by rw[<-O];exact SV)⟩);go_loopw [8] (λi wr=> ∃(j:Nat),j<=n/\i= .int .i64 j/\Qs (∃S1 W,rT B m wr p dp e nm pv l nm2 (.slice E M F) l2 S1 W (f j)/\X (j+1) S1)/\Qs (Qr B w wr)) (λi _=>n-(intOf i).toNat)
  case atStart=>exact⟨0,Nx _,rfl,j2,j1⟩
  case round=>
   obtain⟨j,b9,rfl,j3,e3⟩:=hrel;obtain⟨S1,W,a8,e4⟩:=j3.out;have s:=zh a8;have e5:=zh e4;obtain⟨c0,q,b3,C,D,I,J⟩:=dT a8.top.blk;have g:=aa a8.top.blk;clear a8 e4 c0 b3 C D I J;by_cases a9:j<n
   ·obtain⟨x,y,z,e6⟩:=g7 j a9
    have j4:=zh e6;have j5:l2.length=M:=d6.symm;clear e6 j5;go_wp2_with fail;have hq:=c5 (j+1) S1 zo e5;refine(tp (n:=N) s.gl s.eng s.ge (j4 W) hq.1 hq.2.1 (Y (j+1) a9).2).mono ?_;rintro v m2 ⟨rfl,j6,e7,e8,e9,f0,f1,D,b4,Q,a,r,u⟩;obtain⟨f2,c2⟩:=zx ({S1 with gen:=S1.gen+1,id:=(bm S1 (f (j+1))).id,ps:=e7,pm:=e9,bk:=f0,V:=e8,c:=D,d:=dz S1 (f (j+1)),lg:=some (f1,LV.new 2 16 (S1.gen+1))}:aM);rw[<-c2] at Q;have c3:=s.step Q;have f3:=zh c3.1;have j7:=e3.trans c3.2;have j8:=zh (hq.2.2 f2 ⟨e7,e8,e9,f0,f1,D,c2,a,r,u⟩);clear a r u c2 b4 c3 hq q g;go_wp2_with fail;go_roundw
    case rel=>exact⟨j+1,a9,by go_num,zh ⟨f2,j6,f3.below ze,j8⟩,(j7.trans (ze.mono f3.gl.1))⟩
    case measure=>simp[intOf];omega
   ·obtain rfl:j=n:=zo
    clear a9;obtain⟨-,-,-,C,D,I,J⟩:=dT s.top.blk;have c1:=λo=>ad (o:=o) s.top.blk
    obtain⟨m3,m4,rfl,-,-,-⟩:=id s.top.pol;go_wp2_with fail;obtain⟨a2,A⟩:=zx ((wr.setCell ⟨p,3,none⟩ (.string nm2)).setCell ⟨p,4,none⟩ (.slice E M F):Qm);have a3:a2.heap[p]?=some (.cells #[dp,e,z0,nm2,.slice E M F,nm2,.slice E M F] 34):=by rw[A,al (al s.top.blk _) _];rfl
    have a4:Ch (·=p) wr a2:=by
     rw[A]
     iterate 2 refine aP ?_ (.inl rfl)
     exact Ch.refl _ _
    have K:=s.set a4 a3 s.old.2 s.old.2;rw[<-A];have a5:=zh K.1;have j9:=e3.trans K.2;clear A a3 a4 K c1 q C D I J g;obtain⟨-,q,-,-,-,-,-⟩:=dT a5.top.blk;have g:=aa a5.top.blk;go_wp2_with fail;refine(hT a5.eng (Y j zl).1).mono ?_;rintro x m5 ⟨m6,rfl,k0,h8,f4⟩;have f5:=a5.below f4;have k1:=j9.trans (f4.mono a5.gl.1);clear q g;go_wp2_with fail;refine zb (ur k0) λm7 f6=>?_
    have k2:=f5.below f6;have k3:=k1.trans (f6.mono f5.gl.1);rw[k7];go_wp2;go_ret;exact⟨rfl,.slice E M F,S1,W,k2,e5,k3⟩
end
structure lc(n:ByteArray)(l:List ah):Prop where
 ok:cD n l=true
 short: ∀k,k<=l.length->(cQ n (l.take k)).length<=1000
 sum:bO l l.length<=20
section
variable{n:ByteArray}{l:List ah}
def lc.at(e:lc n l){i:Nat}(f:i<l.length):(1<=(l.getD i ah.zero).keep/\(l.getD i ah.zero).keep<=1000000)/\(1<=(l.getD i ah.zero).shards/\(l.getD i ah.zero).shards<=8)/\(1<=(l.getD i ah.zero).every/\(l.getD i ah.zero).every<=1000000):=by
 obtain⟨-,a,c,d,-⟩:=mI e.ok i f;exact⟨a,c,d⟩
def lc.len(a:lc n l):1<=l.length/\l.length<=5:=(df a.ok).2.1
end
def Dx(t e:Int)(a:1<=e)(f: -1000000000000000000<=t)(g:e<=1000000):bR t e<=t/\t-e<bR t e:=by
 unfold bR;obtain⟨c,d,-⟩:=ct t e a;rw[NB zo];split<;>omega
def Gz(now keep e:Int)(c:0<=now)(d:0<=keep/\keep<=1000000)(a:1<=e/\e<=1000000):0<=dL now keep e/\dL now keep e<=now:=by
 unfold dL;rw[NB zo];have:=Dx (now-keep) e a.1 zo a.2;omega
def GA(t e:Int)(g:0<=t/\t<=1000000000000000000)(a:1<=e/\e<=1000000):t<=gT t e/\gT t e<=t+1000000/\lS (gT t e) e=true:=by
 unfold gT lS;obtain⟨d,f,-⟩:=ct t e a.1;rw[NB zo];split
 ·rename_i c
  exact⟨zo,zo,NV ⟨a.1,c⟩⟩
 ·rw[NH zo]
  refine⟨zo,zo,NV ⟨a.1,?_⟩⟩;have:t-t%e+e=e*(t/e+1):=by have:=PC t e;rw[Int.mul_add];omega
  rw[this];exact Int.mul_emod_right _ _
def KC{r:RV}(a:lc r.name r.l)(d:0<=r.now){k:Nat}(e:k<r.l.length):0<=r.low k/\r.low k<=r.now:=by
 unfold RV.low;have f:=(a.at e).1;have c:=(a.at (i:=min (k+1) (r.l.length-1)) zo).2.2;exact Gz _ _ _ d zo c
def wX{r:RV}(a:lc r.name r.l){M:Int}(c:0<=r.now/\r.now<=M)(d: ∀k,k<r.fl.length->0<=r.fl.getD k 0/\r.fl.getD k 0<=M){k:Nat}(e:k<r.l.length):0<=r.fromN k/\r.fromN k<=M:=by
 have f:=KC a c.1 e;unfold RV.fromN;split
 ·have:=d k ‹_›;omega
 ·omega
def rE{r:RV}{l:List ah}{ev:Int}(c:(l.getD 0 ah.zero).every=1): ∀k,1<=k->0<=iu r l ev k/\lS ev (l.getD (iu r l ev k).toNat ah.zero).every=true
 |0,a=>zo
 |k+1,_=>by
  unfold iu;split
  ·rename_i a
   exact⟨zo,by rw[Qd];exact a.1⟩
  ·rename_i a
   by_cases d:1<=k
   ·exact rE c k d
   ·obtain rfl:k=0:=zo
    refine absurd ⟨?_,.inl ?_⟩ a
    ·rw[c];unfold lS;simp
    ·show(-1:Int)<0;omega
section
variable{now:Int}{n n2:ByteArray}{l l2:List ah}{σ:au}{S S2:aM}
def jD(now:Int)(n:ByteArray)(l:List ah)(a:List Int):dJ:=⟨⟨now,n,l,a⟩,List.replicate l.length none⟩
def cO(now:Int)(n:ByteArray)(l:List ah)(n2:ByteArray)(l2:List ah):PV:=bh ⟨now,n,l,[]⟩ n2 l2
def wY(i:Nat)(a:i<l2.length):(cO now n l n2 l2).src.getD i 0=iu ⟨now,n,l,[]⟩ l (l2.getD i ah.zero).every l.length:=by
 show(List.map _ (List.take _ l2)).getD i 0=_;rw[OA,Nr,OG,Nr,Np a];rfl
def mJ:(cO now n l n2 l2).src.length=l2.length:=by
 show(List.map _ (List.take _ l2)).length=_;rw[OA,OC]
def kJ(m i:Nat):(List.replicate m (none:Option ay)).getD i none=none:=by
 rw[Nr,Pk];split<;>rfl
def Bj(d:lc n l)(o:lc n2 l2)(p:0<=now/\now<=1000000){i:Nat}(e:i<l2.length):0<=oF (cO now n l n2 l2) ⟨now,n,l,[]⟩ i/\oF (cO now n l n2 l2) ⟨now,n,l,[]⟩ i<=2000000/\lS (oF (cO now n l n2 l2) ⟨now,n,l,[]⟩ i) (l2.getD i ah.zero).every=true:=by
 unfold oF;rw[wY i e];have f:=d.len;have g:=rE (r:=⟨now,n,l,[]⟩) (ev:=(l2.getD i ah.zero).every) ((mI d.ok 0 zo).2.2.2.2.1 rfl) l.length f.1;have h:=mw ⟨now,n,l,[]⟩ l (l2.getD i ah.zero).every l.length;obtain⟨s,j⟩: ∃s:Nat,iu ⟨now,n,l,[]⟩ l (l2.getD i ah.zero).every l.length=s:=⟨_,(Int.toNat_of_nonneg g.1).symm⟩;rw[j] at h⊢;rw[RV.from_nat _ s (by show s<l.length;omega)];have a:=wX (r:=⟨now,n,l,[]⟩) d (M:=1000000) p (λk m=>by simp at m) (k:=s) (by show s<l.length;omega);have c:=GA _ (l2.getD i ah.zero).every ⟨a.1,zo⟩ (o.at e).2.2;exact⟨by have:=c.1;show 0<=gT _ (l2.getD i ah.zero).every;exact Int.le_trans a.1 this,by have:=c.2.1;show gT _ (l2.getD i ah.zero).every<=_;have q:=a.2;exact Int.le_trans this zo,c.2.2⟩
def GB(e:lc n l)(g:lc n2 l2)(j:0<=now/\now<=1000000):(cO now n l n2 l2).can (jD now n l []):=by
 have f:=e.len;refine⟨⟨g.ok,mJ,λi d=>?_⟩,⟨by rw[hF];exact Nt _,λk a=>?_⟩,⟨j.1,by show now<=_;omega⟩,λk a=>(e.at a).2.2,λk a=>(g.at a).2.2,λi d x h=>?_,⟨f.2,f.1⟩⟩
 ·have d:i<l2.length:=d
  rw[wY i d];have c:=rE (r:=⟨now,n,l,[]⟩) (ev:=(l2.getD i ah.zero).every) ((mI e.ok 0 zo).2.2.2.2.1 rfl) l.length f.1;exact⟨⟨c.1,(mw _ _ _ _).2⟩,c.2⟩
 ·rw[hF] at a
  have a:k<l2.length:=a;have c:=Bj e g j (i:=k) a
  have m:(cr (cO now n l n2 l2) ⟨now,n,l,[]⟩ l2.length).getD k 0=oF (cO now n l n2 l2) ⟨now,n,l,[]⟩ k:=by
   unfold cr;rw[Nr,OG,PR a];rfl
  show 0<=(cr (cO now n l n2 l2) ⟨now,n,l,[]⟩ l2.length).getD k 0/\lS ((cr (cO now n l n2 l2) ⟨now,n,l,[]⟩ l2.length).getD k 0) (l2.getD k ah.zero).every=true;rw[m];exact⟨c.1,c.2.2⟩
 ·have:(jD now n l []).tabs.getD ((cO now n l n2 l2).src.getD i 0).toNat none=none:=kJ _ _
  rw[this] at h;cases h
def zR:(cO now n l n2 l2).built (jD now n l [])=jD now n2 l2 (cr (cO now n l n2 l2) ⟨now,n,l,[]⟩ l2.length):=by
 unfold PV.built jD
 congr 1
 have a: ∀i,(cO now n l n2 l2).tab ⟨⟨now,n,l,[]⟩,List.replicate l.length none⟩ i=none:=λi=>by
  show gx (List.getD (List.replicate l.length none) _ none) _ _=none;rw[kJ];rfl
 unfold cm;simp only[a,ite_self];show List.map (λ_=>none) (List.range l2.length)=_;rw[List.map_const',List.length_range]
def lJ(m:Nat): ∀k,cz (List.replicate m none) k=0:=by
 intro k;unfold cz;rw[List.take_replicate,List.map_replicate,List.sum_replicate_int];show _*gd none=0;rw[show gd none=0 from rfl];omega
def KD:cw (jD now n l []) (cO now n l n2 l2)=bO l2 l2.length:=by
 unfold cw PV.bound;rw[zR,show(jD now n2 l2 (cr (cO now n l n2 l2) ⟨now,n,l,[]⟩ l2.length)).tabs=List.replicate l2.length none from rfl,lJ];show 2*0+(cO now n l n2 l2).fills=_;rw[Int.mul_zero,Int.zero_add];rfl
def nZ(f:Int)(l:List ah)(m:Nat): ∀k,gz f l (List.replicate m none) k= []
 |0=>rfl
 |k+1=>by rw[lG,nZ f l m k,kJ];rfl
end
structure wZ(S:aM)(g n:Int)(c:Nat):Prop where
 ps:S.ps= []
 pure:S.V.pure=dm []
 dg:DG S.d n
 gen:S.gen=g
 id:S.id=0
 c:S.c<=c
section
variable{g n:Int}{c:Nat}{σ:au}{S S2:aM}
def tD(a:cA σ= []):bm S σ=Gh S:=by
 unfold bm dq;rw[a];rfl
def Bk{a:bI}(c:a.short)(i:a.fl.length<=5)(j:a.src.length<=5)(f:a.es= []):a.bytes.length<=2560:=by
 have g:=c.pt;have h:=c.ot;unfold bI.bytes bI.head;rw[f];simp only[Nw,OM,List.flatMap_nil,aU,ca,aY,am,NW];have d:(dE a.pn a.pl).data.toList.length=(dE a.pn a.pl).size:=PN;have e:a.toT.data.toList.length=a.toT.size:=PN;rw[d,e];omega
structure ki(σ:au):Prop where
 ok:σ.ok
 pol:lc σ.τ.r.name σ.τ.r.l
 now:0<=σ.τ.r.now/\σ.τ.r.now<=1000000
 tabs:σ.τ.tabs=List.replicate σ.τ.r.l.length none
 all: ∀f∈σ.τ.r.all,0<=f/\f<=3000000
 sh: ∀s∈σ.sh,lc s.P.name s.P.l/\s.tabs=List.replicate s.P.l.length none/\s.P.src.length=s.P.l.length/\(∀x∈s.P.src,0<=x/\x<σ.τ.r.l.length)/\s.bound<=4096/\(0<=s.done/\s.done<=100)
def ki.want(a:ki σ):cA σ= []:=by
 unfold cA;rw[a.tabs,nZ];cases hs:σ.sh with
 |none=>rfl
 |some s=>
  have:=(a.sh s hs).2.1;dsimp only;rw[this,nZ];rfl
def lc.sh{n':ByteArray}{a:List ah}(d:lc n' a):iU a:=λi c=>(d.at c).2.1
def GC(m:Nat): ∀o∈List.replicate m (none:Option ay),rS o:=λo a=>by
 obtain⟨-,rfl⟩:=List.mem_replicate.1 a;intro r c;cases c
def ki.full(a:ki σ):σ.full:=⟨a.pol.sh,by rw[a.tabs];exact GC _,λs c=>⟨(a.sh s c).1.sh,by rw[(a.sh s c).2.1];exact GC _⟩⟩
def ki.cat(a:ki σ){gen id:Int}(j:0<gen/\gen<=1000000):(gI σ gen id []).valid/\(gI σ gen id []).short/\(gI σ gen id []).bytes.length<=2560:=by
 have q:=a.pol.len;have i:σ.τ.r.all.length=σ.τ.r.l.length:=RV.allN_len _ _;cases hs:σ.sh with
 |none=>
  have e:gI σ gen id []=⟨gen,id,σ.τ.r.now,σ.τ.r.name,σ.τ.r.l,σ.τ.r.all,ByteArray.empty,[],[],0,0,[]⟩:=by unfold gI oJ;rw[hs];rfl
  rw[e];have c:(⟨gen,id,σ.τ.r.now,σ.τ.r.name,σ.τ.r.l,σ.τ.r.all,ByteArray.empty,[],[],0,0,[]⟩:bI).short:=⟨a.pol.short,λk r=>by show(cQ ByteArray.empty (List.take k [])).length<=1000;rw[List.take_nil];decide⟩;exact⟨⟨⟨⟨j.1,by show gen<=_;omega⟩,⟨a.now.1,by show σ.τ.r.now<=_;have:=a.now.2;omega⟩,a.pol.ok,i,λf d=>by have:=a.all f d;omega⟩,.inl ⟨rfl,rfl,rfl,rfl,rfl⟩,⟨zm,λe g=>(by cases g),List.nodup_nil,List.nodup_nil⟩⟩,c,Bk c (by show σ.τ.r.all.length<=5;omega) zm rfl⟩
 |some s=>
  have e:gI σ gen id []=⟨gen,id,σ.τ.r.now,σ.τ.r.name,σ.τ.r.l,σ.τ.r.all,s.P.name,s.P.l,s.P.src,s.bound,s.done,[]⟩:=by unfold gI oJ;rw[hs];rfl
  obtain⟨h,t,l,m,n,o⟩:=a.sh s hs;have p:=(a.ok.sh s hs).bound;have u:=h.len;rw[e];have c:(⟨gen,id,σ.τ.r.now,σ.τ.r.name,σ.τ.r.l,σ.τ.r.all,s.P.name,s.P.l,s.P.src,s.bound,s.done,[]⟩:bI).short:=⟨a.pol.short,h.short⟩;exact⟨⟨⟨⟨j.1,by show gen<=_;omega⟩,⟨a.now.1,by show σ.τ.r.now<=_;have:=a.now.2;omega⟩,a.pol.ok,i,λf d=>by have:=a.all f d;omega⟩,.inr ⟨h.ok,⟨l,m⟩,⟨p.1,n⟩,o⟩,⟨zm,λe g=>(by cases g),List.nodup_nil,List.nodup_nil⟩⟩,c,Bk c (by show σ.τ.r.all.length<=5;omega) (by show s.P.src.length<=5;omega) rfl⟩
def wZ.save(d:wZ S g n c)(e:ki σ)(r:0<=g/\g<=1000)(q:n<=900000000)(s:c<=900000):dZ S σ n:=by
 have h:=e.want;have i:bm S σ=Gh S:=tD h;have f:(bm S σ).out= []:=by rw[i];rfl
 have j:(bm S σ).id=0:=by rw[i];exact d.id
 obtain⟨l,m,o⟩:=e.cat (gen:=S.gen+1) (id:=(bm S σ).id) (by rw[d.gen];omega);exact⟨e.ok,e.full,by have:=e.now;unfold aQ;omega,d.dg,q,λk y a=>by rw[h] at a;simp at a,by rw[h];simp,by have:=d.c;omega,by rw[d.gen];omega,by rw[j];omega,by rw[f];exact l,by rw[f];exact m,by rw[f];exact o,λk p a=>by rw[f] at a;simp at a⟩
def wZ.disk(a:wZ S g n c)(h:ki σ)(p:0<=g/\g<=1000):DG (dz S σ) (n+14)/\(bm S σ).out= []/\(bm S σ).id=0:=by
 have d:bm S σ=Gh S:=tD h.want;have e:(bm S σ).out= []:=by rw[d];rfl
 obtain⟨k,l,i⟩:=h.cat (gen:=S.gen+1) (id:=(bm S σ).id) (by rw[a.gen];omega);have m:(cC S σ).length<=2560:=by unfold cC;rw[e];exact i
 have o:kO (cC S σ)<=10:=by unfold kO;omega
 have j:DG (er S σ) (n+11):=by
  unfold er;rw[d];exact((a.dg.many _ _).after).mono zo
 have f:=j.sw (s:=⟨S.gen+1,90,(cC S σ).length⟩) ⟨(by decide:gZ 90),by show S.gen+1≠0;rw[a.gen];omega,by show(0:Int)<=((cC S σ).length:Int);omega,by show((cC S σ).length:Int)<=40000;omega⟩ (by show 0<=S.gen+1;rw[a.gen];omega);refine⟨?_,e,by rw[d];exact a.id⟩;unfold dz;rw[f.1];exact f.2.mono zo
def wZ.saved(a:wZ S g n c)(j:ki σ)(k:0<=g/\g<=1000)(o:oT S σ S2):wZ S2 (g+1) (n+14) (c+31)/\(∃t,S2.lg=some (t,LV.new 2 16 (g+1)))/\S2.bad=S.bad:=by
 obtain⟨L,V,m,l,t,c',rfl,d,e,p⟩:=o;obtain⟨f,h,i⟩:=a.disk j k;rw[h] at d e;exact⟨⟨List.map_eq_nil_iff.1 d,by rw[e];rfl,f,by show S.gen+1=_;rw[a.gen],i,by show c'<=_;have:=a.c;omega⟩,⟨t,by show some (t,LV.new 2 16 (S.gen+1))=_;rw[a.gen]⟩,rfl⟩
end
def xa: ∀{l:List ah},(∀j,j<l.length->1<=(l.getD j ah.zero).shards/\(l.getD j ah.zero).shards<=8)->0<=bO l l.length
 | [],_=>zd
 |t::l,a=>by
  have d:1<=t.shards/\t.shards<=8:=a 0 zm;have c:=xa (l:=l) λj e=>a (j+1) zu
  unfold bO at c⊢;rw[OA] at c⊢;rw[Oq,List.sum_cons];omega
def lK: ∀(l:List ah) (i:Nat) (k:Int),0<=k->(∀j,j<l.length->1<=(l.getD j ah.zero).shards/\(l.getD j ah.zero).shards<=8)->
 (k<bO l l.length-> ∃(j:Nat) (t:Int),iN l i k=⟨1,(i+j:Nat),t⟩/\j<l.length/\(0<=t/\t<=8))/\(k=bO l l.length->iN l i k=⟨2,0,0⟩)/\(k=bO l l.length+1->iN l i k=⟨3,0,0⟩)
 | [],i,k,h,_=>by
  have c:bO [] ([]:List ah).length=0:=rfl;rw[c];refine⟨λa=>zo,λa=>?_,λa=>?_⟩
  ·unfold iN;rw[NH a]
  ·unfold iN;rw[NB zo]
 |t::l,i,k,h,d=>by
  have c:bO (t::l) (t::l).length=t.shards+bO l l.length:=by
   unfold bO;rw[OA,OA];simp
  have e:=d 0 zm;have e:1<=t.shards/\t.shards<=8:=e;have m:=lK l (i+1) (k-t.shards);have f: ∀j,j<l.length->1<=(l.getD j ah.zero).shards/\(l.getD j ah.zero).shards<=8:=λj u=>d (j+1) zu
  have v:=(xa f);rw[c];unfold iN;by_cases g:k<t.shards
  ·rw[NH g]
   exact⟨λ_=>⟨0,k,rfl,zm,zo⟩,λa=>zo,λa=>zo⟩
  ·rw[NB g]
   obtain⟨n,o,p⟩:=m zo f;refine⟨λa=>?_,λa=>o zo,λa=>p zo⟩;obtain⟨j,q,r,w,s⟩:=n zo;exact⟨j+1,q,by rw[r,OU,Nat.add_comm 1 j],by simp;omega,s⟩
section
variable{now:Int}{n n2:ByteArray}{l l2:List ah}
def Eg(now:Int)(n:ByteArray)(l:List ah):au:=⟨26,jD now n l [],none⟩
def xB(now:Int)(n:ByteArray)(l:List ah)(n2:ByteArray)(l2:List ah)(i:Nat):el:=⟨cO now n l n2 l2,bO l2 l2.length,i,List.replicate l2.length none⟩
def xC(now:Int)(n:ByteArray)(l:List ah)(n2:ByteArray)(l2:List ah)(i:Nat):au:=⟨26,jD now n l [],some (xB now n l n2 l2 i)⟩
def KE(now:Int)(n:ByteArray)(l:List ah)(n2:ByteArray)(l2:List ah):au:=⟨26,jD now n2 l2 (cr (cO now n l n2 l2) ⟨now,n,l,[]⟩ l2.length),none⟩
def GD{r:RV}(d:lc r.name r.l)(e:0<=r.now/\r.now<=1000000)(g: ∀k,k<r.fl.length->0<=r.fl.getD k 0/\r.fl.getD k 0<=3000000): ∀f∈r.all,0<=f/\f<=3000000:=λf a=>by
 obtain⟨k,c,rfl⟩:=OI.1 a;exact wX d (M:=3000000) ⟨e.1,zo⟩ g (OT.1 c)
def uF(c:lc n l)(d:0<=now/\now<=1000000):ki (Eg now n l):=
 ⟨⟨c.ok,by show(0:Nat)<=5;omega,⟨(by decide:(0:Int)<=26),(by decide:(26:Int)<=4096)⟩,λs a=>by cases a⟩,c,d,rfl,GD c d (λk e=>by simp[Eg,jD] at e),λs a=>by cases a⟩
def Dy(k:Nat)(a:k<l2.length):(cr (cO now n l n2 l2) ⟨now,n,l,[]⟩ l2.length).getD k 0=oF (cO now n l n2 l2) ⟨now,n,l,[]⟩ k:=by
 unfold cr;rw[Nr,OG,PR a];rfl
def GE(f:lc n l)(c:lc n2 l2)(e:0<=now/\now<=1000000):ki (KE now n l n2 l2):=
 ⟨⟨c.ok,by show(cr _ _ _).length<=5;rw[hF];exact c.len.2,⟨(by decide:(0:Int)<=26),(by decide:(26:Int)<=4096)⟩,λs d=>by cases d⟩,c,e,rfl,GD c e (λk a=>by
  have a:k<(cr (cO now n l n2 l2) ⟨now,n,l,[]⟩ l2.length).length:=a;rw[hF] at a;show 0<=(cr (cO now n l n2 l2) ⟨now,n,l,[]⟩ l2.length).getD k 0/\(cr (cO now n l n2 l2) ⟨now,n,l,[]⟩ l2.length).getD k 0<=3000000;rw[Dy k a];have:=Bj f c e a;omega),λs d=>by cases d⟩
def pG(a:lc n l):1<=bO l l.length/\bO l l.length<=20:=by
 have:=(kx (cE a.ok) l.length zl).1;have:=a.len;exact⟨zo,a.sum⟩
def Bl(a:lc n2 l2){i:Nat}(c:(i:Int)<bO l2 l2.length+2):(xB now n l n2 l2 i).ok:=by
 have:=pG a;exact⟨a.ok,mJ,⟨by show 0<=bO l2 l2.length;omega,by show bO l2 l2.length<=_;omega⟩,by show(0:Int)<=(i:Int);omega,c⟩
def KF(a:lc n l)(c:lc n2 l2)(g:0<=now/\now<=1000000){i:Nat}(r:(i:Int)<bO l2 l2.length+2):ki (xC now n l n2 l2 i):=by
 have h:=pG c;have d:=uF a g;refine⟨⟨a.ok,d.ok.fl,d.ok.room,λs h=>?_⟩,a,g,rfl,d.all,λs o=>?_⟩
 ·obtain rfl:=Oa h
  exact Bl c r
 ·obtain rfl:=Oa o
  refine⟨c,rfl,mJ,λx f=>?_,by show bO l2 l2.length<=_;omega,by show(0:Int)<=(i:Int)/\(i:Int)<=100;omega⟩;have p:=(GB a c g).fit.2.2;have f:x∈(cO now n l n2 l2).src:=f;obtain⟨j,k,rfl⟩:=List.getElem_of_mem f;have q:j<l2.length:=by rw[<-mJ (now:=now) (n:=n) (l:=l) (n2:=n2)];exact k
  have m:=(p j q).1;have e:(cO now n l n2 l2).src.getD j 0=(cO now n l n2 l2).src[j]:=by rw[Nr,Np k];rfl
  rw[e] at m;exact m
def ME(i:Nat):(cO now n l n2 l2).tab (jD now n l []) i=none:=by
 show gx (List.getD (List.replicate l.length none) _ none) _ _=none;rw[kJ];rfl
def rF:((cO now n l n2 l2).built (jD now n l [])).tabs=List.replicate l2.length none:=by rw[zR];rfl
def Jk(m i:Nat):(List.replicate m (none:Option ay)).set i none=List.replicate m none:=by
 refine Pa zm λk a c=>?_
 rw[PK];split<;>simp
def Ly(m:lc n l)(d:lc n2 l2)(o:0<=now/\now<=1000000){i:Nat}(L:(i:Int)<bO l2 l2.length+1): ∃x y z:Int,∀b a,bJ a b (xC now n l n2 l2 i)->Qo zP 77 #[b.s] a (fy a b (xC now n l n2 l2 (i+1)) (.tuple #[.agg #[x,y,z],()])):=by
 obtain⟨p,r,J⟩:=lK l2 0 i zo (λj s=>(d.at s).2.1);by_cases u:(i:Int)<bO l2 l2.length
 ·obtain⟨j,t,k,v,K⟩:=p u
  rw[Ok] at k;refine⟨1,j,t,λb a f=>mA (S:=xC now n l n2 l2 i) (σ':=xB now n l n2 l2 (i+1)) f rfl λw' c=>?_⟩;obtain⟨w,A,B,ps,g⟩:=c.tr;obtain⟨C,sv,D,E,h⟩:=c.sh _ rfl;have:=sS h (Bl d zo) g (GB m d o) j t k v (kJ _ _) (by unfold aQ;omega)
  have e:(⟨(xB now n l n2 l2 i).P,(xB now n l n2 l2 i).bound,(xB now n l n2 l2 i).done+1,(xB now n l n2 l2 i).tabs.set j (fK ((xB now n l n2 l2 i).P.tab (xC now n l n2 l2 i).τ j) (kV ((xB now n l n2 l2 i).P.tab (xC now n l n2 l2 i).τ j) ((xB now n l n2 l2 i).P.l.getD j ah.zero).shards t)).head?⟩:el)=xB now n l n2 l2 (i+1):=by
   have F:(xB now n l n2 l2 i).P.tab (xC now n l n2 l2 i).τ j=none:=ME j;rw[F];show el.mk _ _ ((i:Int)+1) ((List.replicate l2.length none).set j (fK none _).head?)=el.mk _ _ ((i+1:Nat):Int) _;have H: ∀q,(fK none q).head?=none:=λq=>by unfold fK;split<;>rfl
   rw[H,Jk];rfl
  rw[e] at this;exact this
 ·have I:(i:Int)=bO l2 l2.length:=zo
  refine⟨2,0,0,λb a f=>mA (S:=xC now n l n2 l2 i) (σ':=xB now n l n2 l2 (i+1)) f rfl λw' c=>?_⟩;obtain⟨w,A,B,ps,g⟩:=c.tr;obtain⟨C,sv,D,E,h⟩:=c.sh _ rfl;exact qR h (Bl d zo) g (GB m d o) (r I) rF.symm
def Lz(o:lc n l)(c:lc n2 l2)(p:0<=now/\now<=1000000){i:Nat}(q:(i:Int)=bO l2 l2.length+1): ∀b a,bJ a b (xC now n l n2 l2 i)->Qo zP 77 #[b.s] a (fy a b (KE now n l n2 l2) (.tuple #[.agg #[(3:Int),(),()],()])):=by
 obtain⟨r,s,e⟩:=lK l2 0 i zo (λj f=>(c.at f).2.1);intro b a g
 have:=sU (S:=xC now n l n2 l2 i) (σ':=xB now n l n2 l2 (i+1)) (τ':=jD now n2 l2 (cr (cO now n l n2 l2) ⟨now,n,l,[]⟩ l2.length)) g rfl λw' d=>by
  obtain⟨t,u,v,ps,h⟩:=d.tr;obtain⟨w,sv,x,y,k⟩:=d.sh _ rfl;have:=wa k (Bl c zo) h (GB o c p) (e q) rF.symm;have m:(xB now n l n2 l2 i).P.built (xC now n l n2 l2 i).τ=_:=zR (now:=now) (n:=n) (l:=l) (n2:=n2) (l2:=l2);rw[m] at this;exact this
 exact this
end
def LA(s:ByteArray):Bool:=decide (1<=s.size)&&decide (s.size<=9)&&s.data.toList.all (λc=>decide (48<=c.toNat)&&decide (c.toNat<=57))&&((s.data.toList.headD 0).toNat !=48||s.size==1)
def cf{s:ByteArray}(f:LA s=true):Jh s:=by
 unfold LA at f;simp only[Ot,On,Pz] at f;obtain⟨⟨⟨g,h⟩,j⟩,c⟩:=f;refine⟨⟨g,h⟩,λi m=>?_,λk l=>?_⟩
 ·have:=Ob.1 j s[i] (by simp[NY])
  simpa using this
 ·rcases c with c|c
  ·exfalso
   have e:s.data.toList.headD 0=s[0]:=by
    obtain⟨⟨d⟩⟩:=s;cases d with
    |nil=>exact absurd k zd
    |cons a d=>rfl
   rw[e,l] at c;simp at c
  ·simpa using c
def Jl{s:ByteArray}(a:bn s=true):1<=s.size/\s.size<=15:=by
 unfold bn at a;simp only[Ot,On] at a;exact a.1
def kj{n:ByteArray}{l:List ah}(a:((List.range (l.length+1)).all λk=>decide ((cQ n (l.take k)).length<=1000))=true): ∀k,k<=l.length->(cQ n (l.take k)).length<=1000:=λk c=>Ns (Ob.1 a k (OT.2 zo))
structure Dz(s n:ByteArray)(l:List ah):Prop where
 pol:lc n l
 parsed:fR s n l
 pw:PW (cd s (s.size+1)).out n l
 five:l.length<=4
def GF:ByteArray:=⟨#[102,105,110,101]⟩
def GG:List ah:= [⟨⟨#[114,97,119]⟩,1,300,2⟩,⟨⟨#[102,105,118,101,115]⟩,5,600,2⟩]
def LB:List hV:= [⟨⟨#[112,111,108,105,99,121]⟩,1,1⟩,⟨⟨#[102,105,110,101]⟩,1,8⟩,⟨⟨#[116,105,101,114]⟩,2,1⟩,⟨⟨#[114,97,119]⟩,2,6⟩,⟨⟨#[101,118,101,114,121]⟩,2,10⟩,⟨⟨#[49]⟩,2,16⟩,⟨⟨#[107,101,101,112]⟩,2,18⟩,⟨⟨#[51,48,48]⟩,2,23⟩,⟨⟨#[115,104,97,114,100,115]⟩,2,27⟩,⟨⟨#[50]⟩,2,34⟩,⟨⟨#[116,105,101,114]⟩,3,1⟩,⟨⟨#[102,105,118,101,115]⟩,3,6⟩,⟨⟨#[101,118,101,114,121]⟩,3,12⟩,⟨⟨#[53]⟩,3,18⟩,⟨⟨#[107,101,101,112]⟩,3,20⟩,⟨⟨#[54,48,48]⟩,3,25⟩,⟨⟨#[115,104,97,114,100,115]⟩,3,29⟩,⟨⟨#[50]⟩,3,36⟩]
def KG:(cd oO (oO.size+1)).out=LB:=zk
def GH:PW (cd oO (oO.size+1)).out GF GG:=by
 rw[KG];exact⟨_,_,_,rfl,.cons zd (cf (s:=⟨#[49]⟩) zk) (cf (s:=⟨#[51,48,48]⟩) zk) (cf (s:=⟨#[50]⟩) zk) (.cons zd (cf (s:=⟨#[53]⟩) zk) (cf (s:=⟨#[54,48,48]⟩) zk) (cf (s:=⟨#[50]⟩) zk) (.nil _))⟩
def LC:Dz oO GF GG:=⟨⟨zk,kj zk,zd⟩,⟨LB.map λx=>⟨x.text,x.line,x.col⟩,_,_,10,zk,rfl,zk,zk,zk,zd,zd,by obtain⟨_,_,_,_,a⟩:=GH;exact a.good⟩,GH,zd⟩
def GI:ByteArray:=⟨#[99,111,97,114,115,101]⟩
def GJ:List ah:= [⟨⟨#[114,97,119]⟩,1,20,1⟩,⟨⟨#[116,101,110,115]⟩,10,200,3⟩,⟨⟨#[104,117,110,100,114,101,100,115]⟩,100,5000,1⟩]
def LD:List hV:= [⟨⟨#[112,111,108,105,99,121]⟩,1,1⟩,⟨⟨#[99,111,97,114,115,101]⟩,1,8⟩,⟨⟨#[116,105,101,114]⟩,2,1⟩,⟨⟨#[114,97,119]⟩,2,6⟩,⟨⟨#[101,118,101,114,121]⟩,2,10⟩,⟨⟨#[49]⟩,2,16⟩,⟨⟨#[107,101,101,112]⟩,2,18⟩,⟨⟨#[50,48]⟩,2,23⟩,⟨⟨#[115,104,97,114,100,115]⟩,2,26⟩,⟨⟨#[49]⟩,2,33⟩,⟨⟨#[116,105,101,114]⟩,3,1⟩,⟨⟨#[116,101,110,115]⟩,3,6⟩,⟨⟨#[101,118,101,114,121]⟩,3,11⟩,⟨⟨#[49,48]⟩,3,17⟩,⟨⟨#[107,101,101,112]⟩,3,20⟩,⟨⟨#[50,48,48]⟩,3,25⟩,⟨⟨#[115,104,97,114,100,115]⟩,3,29⟩,⟨⟨#[51]⟩,3,36⟩,⟨⟨#[116,105,101,114]⟩,4,1⟩,⟨⟨#[104,117,110,100,114,101,100,115]⟩,4,6⟩,⟨⟨#[101,118,101,114,121]⟩,4,15⟩,⟨⟨#[49,48,48]⟩,4,21⟩,⟨⟨#[107,101,101,112]⟩,4,25⟩,⟨⟨#[53,48,48,48]⟩,4,30⟩,⟨⟨#[115,104,97,114,100,115]⟩,4,35⟩,⟨⟨#[49]⟩,4,42⟩]
def KH:(cd oP (oP.size+1)).out=LD:=zk
def GK:PW (cd oP (oP.size+1)).out GI GJ:=by
 rw[KH];exact⟨_,_,_,rfl,.cons zd (cf (s:=⟨#[49]⟩) zk) (cf (s:=⟨#[50,48]⟩) zk) (cf (s:=⟨#[49]⟩) zk) (.cons zd (cf (s:=⟨#[49,48]⟩) zk) (cf (s:=⟨#[50,48,48]⟩) zk) (cf (s:=⟨#[51]⟩) zk) (.cons zd (cf (s:=⟨#[49,48,48]⟩) zk) (cf (s:=⟨#[53,48,48,48]⟩) zk) (cf (s:=⟨#[49]⟩) zk) (.nil _)))⟩
def LE:Dz oP GI GJ:=⟨⟨zk,kj zk,zd⟩,⟨LD.map λx=>⟨x.text,x.line,x.col⟩,_,_,10,zk,rfl,zk,zk,zk,zd,zd,by obtain⟨_,_,_,_,a⟩:=GK;exact a.good⟩,GK,zd⟩
def GL:ByteArray:=⟨#[111,100,100]⟩
def GM:List ah:= [⟨⟨#[114,97,119]⟩,1,50,4⟩,⟨⟨#[115,101,118,101,110,115]⟩,7,70,1⟩]
def LF:List hV:= [⟨⟨#[112,111,108,105,99,121]⟩,1,1⟩,⟨⟨#[111,100,100]⟩,1,8⟩,⟨⟨#[116,105,101,114]⟩,2,1⟩,⟨⟨#[114,97,119]⟩,2,6⟩,⟨⟨#[101,118,101,114,121]⟩,2,10⟩,⟨⟨#[49]⟩,2,16⟩,⟨⟨#[107,101,101,112]⟩,2,18⟩,⟨⟨#[53,48]⟩,2,23⟩,⟨⟨#[115,104,97,114,100,115]⟩,2,26⟩,⟨⟨#[52]⟩,2,33⟩,⟨⟨#[116,105,101,114]⟩,3,1⟩,⟨⟨#[115,101,118,101,110,115]⟩,3,6⟩,⟨⟨#[101,118,101,114,121]⟩,3,13⟩,⟨⟨#[55]⟩,3,19⟩,⟨⟨#[107,101,101,112]⟩,3,21⟩,⟨⟨#[55,48]⟩,3,26⟩,⟨⟨#[115,104,97,114,100,115]⟩,3,29⟩,⟨⟨#[49]⟩,3,36⟩]
def KI:(cd oQ (oQ.size+1)).out=LF:=zk
def GN:PW (cd oQ (oQ.size+1)).out GL GM:=by
 rw[KI];exact⟨_,_,_,rfl,.cons zd (cf (s:=⟨#[49]⟩) zk) (cf (s:=⟨#[53,48]⟩) zk) (cf (s:=⟨#[52]⟩) zk) (.cons zd (cf (s:=⟨#[55]⟩) zk) (cf (s:=⟨#[55,48]⟩) zk) (cf (s:=⟨#[49]⟩) zk) (.nil _))⟩
def LG:Dz oQ GL GM:=⟨⟨zk,kj zk,zd⟩,⟨LF.map λx=>⟨x.text,x.line,x.col⟩,_,_,10,zk,rfl,zk,zk,zk,zd,zd,by obtain⟨_,_,_,_,a⟩:=GN;exact a.good⟩,GN,zd⟩
def GO:ByteArray:=⟨#[119,101,98]⟩
def GP:List ah:= [⟨⟨#[114,97,119]⟩,1,100,2⟩,⟨⟨#[116,101,110,115]⟩,10,1000,1⟩]
def LH:List hV:= [⟨⟨#[112,111,108,105,99,121]⟩,1,1⟩,⟨⟨#[119,101,98]⟩,1,8⟩,⟨⟨#[116,105,101,114]⟩,2,1⟩,⟨⟨#[114,97,119]⟩,2,6⟩,⟨⟨#[101,118,101,114,121]⟩,2,10⟩,⟨⟨#[49]⟩,2,16⟩,⟨⟨#[107,101,101,112]⟩,2,18⟩,⟨⟨#[49,48,48]⟩,2,23⟩,⟨⟨#[115,104,97,114,100,115]⟩,2,27⟩,⟨⟨#[50]⟩,2,34⟩,⟨⟨#[116,105,101,114]⟩,3,1⟩,⟨⟨#[116,101,110,115]⟩,3,6⟩,⟨⟨#[101,118,101,114,121]⟩,3,11⟩,⟨⟨#[49,48]⟩,3,17⟩,⟨⟨#[107,101,101,112]⟩,3,20⟩,⟨⟨#[49,48,48,48]⟩,3,25⟩,⟨⟨#[115,104,97,114,100,115]⟩,3,30⟩,⟨⟨#[49]⟩,3,37⟩]
def KJ:(cd oR (oR.size+1)).out=LH:=zk
def GQ:PW (cd oR (oR.size+1)).out GO GP:=by
 rw[KJ];exact⟨_,_,_,rfl,.cons zd (cf (s:=⟨#[49]⟩) zk) (cf (s:=⟨#[49,48,48]⟩) zk) (cf (s:=⟨#[50]⟩) zk) (.cons zd (cf (s:=⟨#[49,48]⟩) zk) (cf (s:=⟨#[49,48,48,48]⟩) zk) (cf (s:=⟨#[49]⟩) zk) (.nil _))⟩
def LI:Dz oR GO GP:=⟨⟨zk,kj zk,zd⟩,⟨LH.map λx=>⟨x.text,x.line,x.col⟩,_,_,10,zk,rfl,zk,zk,zk,zd,zd,by obtain⟨_,_,_,_,a⟩:=GQ;exact a.good⟩,GQ,zd⟩
def hX(k:Int):ByteArray:=if k%4=0 then GF else if k%4=1 then GI else if k%4=2 then GL else GO
def dQ(k:Int):List ah:=if k%4=0 then GG else if k%4=1 then GJ else if k%4=2 then GM else GP
def uG(k:Int):Dz (iW k) (hX k) (dQ k):=by
 unfold iW hX dQ;split
 ·exact LC
 ·split
  ·exact LE
  ·split
   ·exact LG
   ·exact LI
def xb(k:Int)(w:Qm):Qo zP 20 #[.string (iW k)] w (kG w (hX k) (dQ k)):=
 Gx (λa=>zQ (by have:=(jp k).2;omega) (jp k).1 (uG k).pw (uG k).five) (uG k).pol.ok (by have:=(df (uG k).pol.ok).1;have:=Jl this;omega)
end Go.Proofs.YtdflhgceeloijaaGreatDoor
