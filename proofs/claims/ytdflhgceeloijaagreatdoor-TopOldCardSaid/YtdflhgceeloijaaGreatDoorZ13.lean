import Derived.Test.YtdflhgceeloijaaGreatDoorZ1
import Derived.Test.YtdflhgceeloijaaGreatDoorZ11
set_option linter.all false
set_option maxRecDepth 100000
set_option maxHeartbeats 16000000
namespace Go.Proofs.YtdflhgceeloijaaGreatDoor
open Go Go.RowKit Tryz
open Tryz renaming prog→zP
open Go renaming World→Qm,Value→Qn,Calls→Qo,TypeId→Qp,Ending→Qq
open Go.RowKit renaming Below→Qr,Hid→Qs
section
variable{w:Qm}{B p dp e:Nat}{m:Int}{pv tv:Qn}{nm tn:ByteArray}{l tl:List ah}{S:aM}{b:SB}{now g n0:Int}{c0:Nat}
def He(g n:Int)(c:Nat)(S:aM):Prop:=wZ S g n c/\S.bad=0/\ ∃t,S.lg=some (t,LV.new 2 16 g)
def wZ.mono{g n n':Int}{c c':Nat}(a:wZ S g n c)(d:n<=n')(e:c<=c'):wZ S g n' c':=⟨a.ps,a.pure,a.dg.mono d,a.gen,a.id,by have:=a.c;omega⟩
def Hf{k:Int}(s:rT B m w p dp e nm pv l tn tv tl S b (Eg now nm l))(f:lc nm l)(h:0<=now/\now<=1000000)(M:wZ S g n0 c0)(O:S.bad=0)(R:0<=g/\g<=100)(T:n0<=1000000)(U:c0<=10000):
 Qo zP 7 #[p,k] w (Gy B m w p dp e (hX k) (dQ k) (KE now nm l (hX k) (dQ k)) (He (g+(bO (dQ k) (dQ k).length+3)) (n0+2000) (c0+2000))):=by
 have n:=uG k;have c:=n.pol;have Q:=pG c;obtain⟨N,A⟩: ∃N:Nat,(N:Int)=bO (dQ k) (dQ k).length+2:=⟨(bO (dQ k) (dQ k).length+2).toNat,zo⟩;have C:=uF f h
 have o: ∀i,i<=N->ki (if i<N then xC now nm l (hX k) (dQ k) i else KE now nm l (hX k) (dQ k)):=λi d=>by
  split
  ·exact KF f c h zo
  ·exact GE f c h
 have q:cw (jD now nm l []) (cO now nm l (hX k) (dQ k))=bO (dQ k) (dQ k).length:=KD
 have:=wV (k:=k) (nm2:=hX k) (l2:=dQ k) (P:=cO now nm l (hX k) (dQ k)) (N:=900000000) (λi=>if i<N then xC now nm l (hX k) (dQ k) i else KE now nm l (hX k) (dQ k)) (λi S1=>wZ S1 (g+i) (n0+14*i) (c0+31*i)/\S1.bad=0/\(1<=i-> ∃t,S1.lg=some (t,LV.new 2 16 (g+i)))) N
  s n.parsed c.ok (by have:=(jp k).2;omega) (xb k) C.ok rfl rfl (GB f c h)
  (by show cz (List.replicate l.length none) (List.replicate l.length none).length+cw (jD now nm l []) (cO now nm l (hX k) (dQ k))<=26;rw[lJ,q];omega)
  (by
   show(if 0<N then xC now nm l (hX k) (dQ k) 0 else _)=_;rw[NH zo];show au.mk _ _ (some (xB now nm l (hX k) (dQ k) 0))=au.mk 26 (jD now nm l []) (some (el.mk _ (cw (jD now nm l []) (cO now nm l (hX k) (dQ k))) _ _));rw[q];rfl)
  (by rw[A];rfl) (by show(if N<N then _ else _:au).sh=none;rw[NB (OX _)];rfl)
  (λi d=>⟨(o i d).ok,by show(if i<N then _ else _:au).room=26;split<;>rfl⟩)
  (λi d=>by
   show∃x y z:Int,∀b j,bJ j b (if i<N then xC now nm l (hX k) (dQ k) i else _)->Qo _ _ _ j (fy j b (if i+1<N then xC now nm l (hX k) (dQ k) (i+1) else KE now nm l (hX k) (dQ k)) _);rw[NH d];by_cases r:i+1<N
   ·rw[NH r]
    exact Ly f c h zo
   ·rw[NB r]
    exact⟨3,0,0,Lz f c h zo⟩)
  ⟨by simpa using M,O,λs=>zo⟩
  (λi S1 d a=>by
   have u:=o i d;refine⟨wZ.save (a.1.mono (n':=900000000) (c':=900000) zo zo) u zo zo zo,a.2.1,λS2 D=>?_⟩
   ·obtain⟨E,F,H⟩:=a.1.saved u zo D
    refine⟨?_,H.trans a.2.1,λ_=>?_⟩
    ·have:(g+((i+1:Nat):Int))=g+i+1:=zo
     rw[this];exact E.mono zo zo
    ·have:(g+((i+1:Nat):Int))=g+i+1:=zo
     rw[this];exact F)
 refine this.mono ?_;rintro x w' ⟨rfl,I,J,K,v,a,L⟩;simp only[OX,if_false] at v;have e:(g+((N+1:Nat):Int))=g+(bO (dQ k) (dQ k).length+3):=zo;rw[e] at a;refine⟨rfl,I,J,K,v,⟨a.1.mono zo zo,a.2.1,a.2.2 zo⟩,L⟩
end
section
variable{w w':Qm}{B0 p dp e:Nat}{m now:Int}{pv tv:Qn}{nm tn:ByteArray}{l tl:List ah}{S S0:aM}{b:SB}{σ:au}
def oh{B c:Nat}(h:S0.dp=dp/\S0.B=B/\S0.c<=0+18/\S0.d=pi (DV.fresh 90)/\S0.gen=0/\S0.id=0/\S0.ps= []/\S0.V.pure=dm []):wZ S0 0 19 18:=by
 obtain⟨-,-,i,a,d,e,f,g⟩:=h;refine⟨f,g,?_,d,e,zo⟩;rw[a];exact((rx.many _ _).after).mono zo
def lM(a:lc nm l):ki (ik nm l):=uF a ⟨Ov 0,zo⟩
def DY(d:cl B0 w)(h:0<B0)(r:w.cell? ⟨0,0,none⟩=some (.int .i64 m))(s:lc nm l)(a:za w p dp e pv nm l S b w'):rT w.heap.size m w' p dp e nm pv l ⟨#[]⟩ (.slice none 0 0) [] S b (Eg 0 nm l)/\He 1 34 49 S:=by
 obtain⟨B,S0,i,L,V,v,x,t,c',rfl,f,g,y⟩:=a.fmt;have j:=oh (B:=B) (c:=0) i;obtain⟨k,n,o⟩:=j.disk (lM s) zo;rw[n] at f g;refine⟨⟨a.top,a.eng,a.out,⟨a.bel.size,λu q=>d.2 u ((a.bel.trans q).mono d.1)⟩,a.ge,a.pge,(a.bel.cell (p:=⟨0,0,none⟩) (No h d.1)).trans r,No h d.1⟩,⟨List.map_eq_nil_iff.1 f,by rw[g];rfl,k.mono zo,rfl,o,by show c'<=49;omega⟩,rfl,t,rfl⟩
def Hg{k:Int}(f:cl B0 w)(g:0<B0)(h:w.cell? ⟨0,0,none⟩=some (.int .i64 m)):
 Qo zP 5 #[.int .i64 k] w (λx w'=> ∃p dp e pv S b,x= .returned (.tuple #[.pointer (some ⟨p,0,none⟩),.bool true])/\Qs (rT w.heap.size m w' p dp e (hX k) pv (dQ k) ⟨#[]⟩ (.slice none 0 0) [] S b (Eg 0 (hX k) (dQ k)))/\Qs (He 1 34 49 S)/\Qs (Qr w.heap.size w w')):=by
 have a:=uG k;refine(Dp f g h a.parsed a.pol.ok (by have:=(jp k).2;omega) (xb k) (λS0 i j l n o q=>?_)).mono ?_
 ·have r:=oh (dp:=S0.dp) (B:=S0.B) (c:=0) ⟨rfl,rfl,i,j,l,n,o,q⟩
  exact wZ.save r (lM a.pol) zo zo zo
 ·rintro x w' ⟨p,dp,e,pv,S,b,rfl,d⟩
  have:=DY f g h a.pol d;exact⟨p,dp,e,pv,S,b,rfl,this.1,this.2,d.bel⟩
def rM(k i:Int)(L:List ba)(a: ∀x∈L,x.good)(c:L.length<=1):(uW k i L).size<=50:=by
 have:(uW k i L).size=(HF k i L).length:=rfl;rw[this];unfold HF;simp only[Nw,am]
 match L,a,c with
 | [],_,_=>simp[eS]
 | [x],a,_=>have:=nB (a x (Nz.2 rfl));simp only[eS,NZ,List.flatMap_nil,OJ,this];omega
def uO{G:LV}{s:ByteArray}{g u:Int}(k:s.size<=50)(i:G.bad=0/\G.frm=2/\G.n=16/\(0<=G.used/\G.used<=1)/\(0<=G.recs/\G.recs<=1)/\(0<=G.gen/\G.gen<=1000)):kg G s:=by
 obtain⟨a,c,d,e,f,h⟩:=i;have j:fd s.size<=1:=by unfold fd;split<;>omega
 exact⟨a,c,d,e.1,zo,⟨f.1,zo⟩,⟨h.1,zo⟩,zo⟩
def Hh{B:Nat}{tick:Int}(h:rT B m w p dp e nm pv l tn tv tl S b (Eg 0 nm l))(v:lc nm l)(a:He 1 34 49 S)(y:0<=tick/\tick<=2000):
 Qo zP 6 #[e,tick] w (λx w'=>x= .returned (.int .i64 0)/\ ∃S2 c,Qs (rT B m w' p dp e nm pv l tn tv tl S2 c (Eg tick nm l))/\Qs (wZ S2 1 100 100)/\S2.bad=0/\Qs (Qr B w w')):=by
 obtain⟨a,i,t,j⟩:=a;have k:=uF v (now:=0) ⟨Ov 0,zo⟩;have f:kg (LV.new 2 16 1) (uW 2 tick []):=uO (g:=0) (u:=0) (rM _ _ _ (λx n=>by cases n) zm) ⟨rfl,rfl,rfl,⟨Ov 0,zd⟩,⟨Ov 0,zd⟩,⟨zd,zd⟩⟩;refine(Dh h.eng j tick f a.dg zo (by have:=a.c;omega) k.ok rfl (λo q=>(List.mem_replicate.1 q).2) y.1 ⟨Ov 0,by show 0+tick<=_;omega⟩).mono ?_;rintro x w' ⟨rfl,c,A,r⟩;have d:=h.step r
 have e:({Eg 0 nm l with τ:=⟨{(Eg 0 nm l).τ.r with now:=(Eg 0 nm l).τ.r.now+tick},(Eg 0 nm l).τ.tabs⟩}:au)=Eg tick nm l:=by
  show au.mk 26 ⟨⟨0+tick,nm,l,[]⟩,_⟩ none=au.mk 26 ⟨⟨tick,nm,l,[]⟩,_⟩ none;rw[Int.zero_add];rfl
 rw[e] at d;have s:=(kh a.dg f).2.after;exact⟨rfl,_,c,d.1,⟨a.ps,a.pure,s.mono zo,a.gen,a.id,by show S.c+14<=100;have:=a.c;omega⟩,i,d.2⟩
end
section
variable{w w':Qm}{B p dp e:Nat}{m:Int}{pv tv:Qn}{nm tn:ByteArray}{l tl:List ah}{S:aM}{b:SB}{σ:au}{g n:Int}{c:Nat}
def uP(σ:au)(x:ba):au:=if σ.τ.r.takes x.name x.time=0 then tq σ x else σ
def lN{r:RV}(d:1<=r.l.length){nm:ByteArray}{t:Int}(e:0<=t/\t<=r.now):r.takes nm t=0/\bn nm=true/\r.from 0<=t\/r.takes nm t=1/\bn nm=false\/r.takes nm t=24/\bn nm=true/\t<r.from 0:=by
 unfold RV.takes;cases hn:bn nm with
 |false=>right;left;rw[NH (.inl rfl)];exact⟨rfl,rfl⟩
 |true=>
  rw[NB zu,NB zo];have c:r.is 0=true:=by unfold RV.is;exact NV ⟨Ov 0,zo⟩
  by_cases a:t<r.from 0
  ·right;right;rw[NH (.inr a)];exact⟨rfl,rfl,a⟩
  ·left;rw[NB (by rw[c];simp;omega)];exact⟨rfl,rfl,zo⟩
def xp(r:RV)(x:ba)(N:Nat): ∀k,cz (dG r x N N) k<=k:=by
 intro k;unfold cz
 have: ∀(L:List (Option ay)),(L.map gd).sum<=L.length:=λL=>by
  induction L with
  |nil=>simp
  |cons a L d=>
   rw[Oq,List.sum_cons,NW];have:gd a<=1:=by unfold gd;split<;>omega
   omega
 have c:=this (List.take k (dG r x N N));rw[NP] at c;omega
def KP{va:Option Addr}{vn vc:Nat}{x:ba}(a:rT B m w p dp e nm pv l tn tv tl S b σ)(o:ki σ)(a5:σ.sh=none)(a6:σ.room=26)(r:He g n c S)(U:0<=g/\g<=1000)(b0:n<=900000)(R:c<=800000)
 (H:aB 3 ba.cells w (.slice va vn vc) [x]) (N: ∀j,aD (.slice va vn vc) j-> ¬EF w e S b j/\j≠p) (I:x.name.size<=15/\(0<=x.time/\x.time<=σ.τ.r.now)/\aQ x.value):
 Qo zP 11 #[p,.agg #[(1:Int),(),.slice va vn vc,.string ⟨#[]⟩,z0]] w (λy w'=>y= .returned (.int .i64 (σ.τ.r.takes x.name x.time))/\ ∃S2 q v,Qs (tu w' p dp e v (KX (σ.τ.r.takes x.name x.time) x) nm pv l tn tv tl)/\Qs (bB w' e [] 82 S2 q (uP σ x))/\Qs (Qr B w w')/\Qs (Ch (λj=>EF w e S b j\/j=p) w w')):=by
 obtain⟨r,a7,t,V⟩:=r;have a8:=o.now;have O:aQ σ.τ.r.now:=by unfold aQ;omega
 have P:x.name.size<=9223372036854775807/\aQ x.time/\aQ x.value:=⟨zo,by unfold aQ;omega,I.2.2⟩;have Q: ∀{u:Qm},Ch (λj=>EF w e S b j\/j=p) w u->Qr B w u:=λR=>R.below (λj f=>f.elim (a.ge j) λf=>by rw[f];exact a.gp) a.gl.1
 obtain⟨k,s⟩:=zx (σ.τ.r.takes x.name x.time);by_cases h:k=0
 ·have J:uP σ x=tq σ x:=by unfold uP;rw[NH (by rw[<-s,h])]
  rw[J,<-s]
  have T:x.good:=by
   rcases lN (nm:=x.name) o.pol.len.1 I.2.1 with i|i|i
   ·exact⟨i.2.1,⟨I.2.1.1,zo⟩,I.2.2⟩
   ·omega
   ·omega
  have K:kg (LV.new 2 16 g) (uW 1 0 [x]):=uO (g:=0) (u:=0) (rM _ _ _ (λy W=>by rw[Nz.1 W];exact T) zm) ⟨rfl,rfl,rfl,⟨Ov 0,(by decide:(0:Int)<=1)⟩,⟨Ov 0,(by decide:(0:Int)<=1)⟩,⟨U.1,U.2⟩⟩;obtain⟨S1,C⟩:=zx ({S with c:=S.c+14,d:=uy (LV.new 2 16 g) S.d (uW 1 0 [x]),lg:=some (t,rr (LV.new 2 16 g) (uW 1 0 [x]))}:aM);obtain⟨S2,X⟩:=zx ({S1 with c:=S1.c,d:=S1.d.spent.flushed,lg:=some (t,rr (LV.new 2 16 g) (uW 1 0 [x]))}:aM);have Y:=kh r.dg K;refine(Be (k:=k) (S2:=S2) (σ1:=tq σ x) a.top a.eng a.out H N λZ D E=>nW (S1:=S1) E (λa0 F L=>?_) (λ_ a9 q a1=>?_) (λa2=>absurd h a2)).mono ?_
  ·rw[h,C]
   exact wI L o.ok a5 O (λj f=>by have:=(o.pol.at f).2.2;unfold aQ;omega) o.tabs _ x ((H.below D).below F) (λj f a3=>(N j f).1 (a.eng.ef_below D (E.ef_below F a3))) P (by rw[<-s,h]) T (by rw[a6];have:=xp σ.τ.r x σ.τ.r.l.length σ.τ.r.l.length;have:=o.pol.len;omega) V K r.dg zo (by have:=r.c;omega)
  ·rw[X]
   exact lI a1 (by rw[C]) (by show(rr _ _).bad=0;exact K.bad) (by rw[C];exact Y.2) zo (by rw[C];show S.c+14<=_;have:=r.c;omega)
  ·rintro y w' ⟨rfl,q,v,i,M,A⟩
   exact⟨rfl,S2,q,v,i,M,Q A,A⟩
 ·have J:uP σ x=σ:=by unfold uP;rw[NB (by rw[<-s];exact h)]
  rw[J,<-s];refine(Be (k:=k) (S2:=S) (σ1:=σ) a.top a.eng a.out H N λZ D E=>nW (S1:=S) E (λa0 F L=>?_) (λa4=>absurd a4 h) (λ_=>rfl)).mono ?_
  ·exact IV L o.ok O _ x ((H.below D).below F) P k s.symm h
  ·rintro y w' ⟨rfl,q,v,i,M,A⟩
   exact⟨rfl,S,q,v,i,M,Q A,A⟩
def Hi{r:RV}(f:r.l.length<=5){k:Nat}(a:k<r.l.length)(n2:ByteArray):(⟨r.now,n2,r.l,r.all⟩:RV).from k=r.from k:=by
 rw[RV.from_nat r k a,RV.from_nat ⟨r.now,n2,r.l,r.all⟩ k a];have d:r.all.length=r.l.length:=RV.allN_len _ _
 have c:r.all.getD k 0=r.fromN k:=by
  unfold RV.all RV.allN;rw[Nr,OG,PR a];rfl
 have e:r.low k<=r.fromN k:=by unfold RV.fromN;split<;>omega
 show(if k<r.all.length then max (r.low k) (r.all.getD k 0) else r.low k)=r.fromN k;rw[NH zo,c];omega
def DZ{r:RV}(a:r.l.length<=5){k:Nat}(c:k<r.l.length)(n2:ByteArray)(t:Int):(⟨r.now,n2,r.l,r.all⟩:RV).start k t=r.start k t:=by
 unfold RV.start;rw[Hi a c];rfl
def xq(r:RV)(x:ba){N k:Nat}(a:k<N):(dG r x N N).getD k none=ph r x k:=by
 unfold dG;rw[Nr,OG,PR a];show(if k<N then _ else _)=_;rw[NH a]
def Ak{x:ba}(a:ki σ)(i:σ.sh=none)(o:σ.room=26)(j:x.name.size<=15/\(0<=x.time/\x.time<=σ.τ.r.now)/\aQ x.value):JJ (uP σ x) (KX (σ.τ.r.takes x.name x.time) x) σ.τ.r.name σ.τ.r.l:=by
 have l:=a.pol.len;have m: ∀k,k<σ.τ.r.l.length->1<=(σ.τ.r.l.getD k ah.zero).every/\aQ (σ.τ.r.l.getD k ah.zero).every:=λk c=>by have:=(a.pol.at c).2.2;unfold aQ;omega
 have n:aQ σ.τ.r.now:=by have:=a.now;unfold aQ;omega
 unfold uP KX;by_cases d:σ.τ.r.takes x.name x.time=0
 ·rw[NH d,NH d]
  refine⟨⟨a.ok.pol,a.ok.fl,a.ok.room,λs f=>by have f:σ.sh=some s:=f;rw[i] at f;cases f⟩,n,rfl,rfl,?_,mu _ _ _ _,m,λy g=>?_,λk c=>?_⟩
  ·show cz (dG σ.τ.r x _ _) (dG σ.τ.r x σ.τ.r.l.length σ.τ.r.l.length).length+wb σ.sh<=σ.room
   rw[i,o,mu];have:=xp σ.τ.r x σ.τ.r.l.length σ.τ.r.l.length;show _+0<=_;omega
  ·obtain rfl:=Oa g
   have p:bn x.name=true:=by
    rcases lN (nm:=x.name) l.1 j.2.1 with h|h|h
    ·exact h.2.1
    ·omega
    ·omega
   exact⟨p,zo,j.2.1.1,by have:=a.now;unfold aQ;omega,j.2.2⟩
  ·show(dG σ.τ.r x σ.τ.r.l.length σ.τ.r.l.length).getD k none=rt ⟨σ.τ.r.now,σ.τ.r.name,σ.τ.r.l,σ.τ.r.all⟩ k (some x)
   rw[xq _ _ c];have e:=DZ (r:=σ.τ.r) l.2 c σ.τ.r.name x.time;unfold ph rt;dsimp only;rw[e,show rR [x.value]=dP x.value by show ea aF.zero _=_;unfold ea;exact NH (show aF.zero.c=0 from rfl)]
 ·rw[NB d,NB d]
  refine⟨a.ok,n,rfl,rfl,?_,by rw[a.tabs,Pg],m,λy g=>(by cases g),λk c=>?_⟩
  ·show cz σ.τ.tabs σ.τ.tabs.length+wb σ.sh<=σ.room
   rw[a.tabs,lJ,i,o];decide
  ·rw[a.tabs,kJ]
   rfl
end
def Hj{w:Qm}{B0:Nat}{m k A tick a v:Int}{name:ByteArray}(l1:Qs (cl B0 w))(l2:Qs (0<B0))(q5:Qs (w.cell? ⟨0,0,none⟩=some (.int .i64 m)))(C:Qs (∀n,Qr w.heap.size w n->Qo zP 4 #[] n (aK n (.bool true))))
 (q6:aQ tick) (q7:aQ a) (l3:Qs (aQ v)):Qo zP 3 #[k,A,tick,name,a,v] w (aK w (.bool true)):=by
 unfold aQ at q6 q7;go_enter func3,ntmps3;by_cases c9:tick<0
 ·go_wp2_with fail
  refine(C w zr).mono ?_;rintro x n ⟨rfl,d⟩;go_wp2_with fail;refine(C n d).mono ?_;rintro x N ⟨rfl,s⟩;have B2:=d.trans (s.mono d.size);go_wp2;go_ret;exact⟨rfl,B2⟩
 by_cases d0:2000<tick
 ·go_wp2_with fail
  refine(C w zr).mono ?_;rintro x n ⟨rfl,d⟩;go_wp2_with fail;refine(C n d).mono ?_;rintro x N ⟨rfl,s⟩;have B2:=d.trans (s.mono d.size);go_wp2;go_ret;exact⟨rfl,B2⟩
 by_cases g4:a<0
 ·go_wp2_with fail
  refine(C w zr).mono ?_;rintro x n ⟨rfl,d⟩;go_wp2_with fail;refine(C n d).mono ?_;rintro x N ⟨rfl,s⟩;have B2:=d.trans (s.mono d.size);go_wp2;go_ret;exact⟨rfl,B2⟩
 by_cases l4:tick<a
 ·go_wp2_with fail
  refine(C w zr).mono ?_;rintro x n ⟨rfl,d⟩;go_wp2_with fail;refine(C n d).mono ?_;rintro x N ⟨rfl,s⟩;have B2:=d.trans (s.mono d.size);go_wp2;go_ret;exact⟨rfl,B2⟩
 by_cases l5:15<name.size
 ·go_wp2_with fail
  refine(C w zr).mono ?_;rintro x n ⟨rfl,d⟩;go_wp2_with fail;refine(C n d).mono ?_;rintro x N ⟨rfl,s⟩;have B2:=d.trans (s.mono d.size);go_wp2;go_ret;exact⟨rfl,B2⟩
 have l6:decide (tick<0)=false:=NQ c9;have l7:decide (2000<tick)=false:=NQ d0;have l8:decide (a<0)=false:=NQ g4;have l9:decide (tick<a)=false:=NQ l4;have m0:decide (15<name.size)=false:=NQ l5;go_wp2_with fail;refine(C w zr).mono ?_;rintro x n ⟨rfl,d⟩;clear l6 l7 l8 l9 m0;go_wp2_with fail;have m1:Qs (0<w.heap.size):=No l2 l1.1;refine(Hg (l1.fresh d) l2 ((d.cell (p:=⟨0,0,none⟩) m1).trans q5)).mono ?_;rintro x N ⟨p,dp,e,pv,S,b,rfl,V,E2,s⟩;obtain⟨g5,d1⟩:=zx (hX k);obtain⟨g6,d2⟩:=zx (dQ k);rw[<-d1,<-d2] at V;have d3:=zh (show lc g5 g6 by rw[d1,d2];exact(uG k).pol);obtain⟨B,d4⟩:=zx n.heap.size;rw[<-d4] at V;have d5:=zh (show w.heap.size<=B by rw[d4];exact d.size);have B2:=zh (show Qr w.heap.size w N from d.trans (s.mono d.size));clear d1 d2 d4;obtain⟨-,W,-,-,-,-,-⟩:=dT V.top.blk;have X:=aa V.top.blk;go_wp2_with fail;refine(Hh V d3 E2 ⟨zo,zo⟩).mono ?_;rintro x m2 ⟨rfl,q8,q9,m3,m4,g7,E⟩;have g8:=zh (And.intro m4 g7);have m5:=zh (show Qr w.heap.size w m2 from B2.trans (E.mono d5));clear g7 W X;go_wp2_with fail;refine(Hf m3 d3 ⟨zo,zo⟩ g8.1 g8.2 zo zo zo).mono ?_;rintro x m6 ⟨rfl,r0,b1,b2,O,g9,m7⟩;have d6:=(uG A).pol;obtain⟨h0,h1⟩:=zx (hX A);obtain⟨h2,h3⟩:=zx (dQ A);rw[<-h1,<-h3] at O d6;have d7:0<=(1+(bO (dQ A) (dQ A).length+3))/\(1+(bO (dQ A) (dQ A).length+3))<=100:=by have:=pG (uG A).pol;omega
 obtain⟨r1,h4⟩:=zx (1+(bO (dQ A) (dQ A).length+3));rw[<-h4] at g9 d7;obtain⟨σ,d8⟩:=zx (KE tick g5 g6 h0 h2);have d9:=GE (now:=tick) d3 d6 ⟨zo,zo⟩;have D:=zh (show σ.sh=none/\σ.room=26/\σ.τ.r.now=tick/\σ.τ.r.name=h0/\σ.τ.r.l=h2 by rw[d8];exact⟨rfl,rfl,rfl,rfl,rfl⟩);rw[<-d8] at O d9;have h5:=zh (And.intro g9 d7);have H:=zh d9;have h6:=zh (show Qr w.heap.size w m6 from m5.trans (m7.mono d5));clear d6 h1 h3 d7 h4 d8 d9;obtain⟨-,W,-,-,-,-,-⟩:=dT O.top.blk;have X:=aa O.top.blk;go_wp2_with fail;refine(hT O.eng H.ok).mono ?_;rintro x P ⟨r2,rfl,m8,m9,b3⟩;have b4:=O.below b3;have h7:=h6.trans (b3.mono h6.size);clear W X;go_wp2_with fail;refine(hJ m8 H.ok).mono ?_;rintro x Y ⟨t,rfl,n0,e0⟩;have h8:=b4.below e0;have h9:=h7.trans (e0.mono h7.size);have n1:=zh (show∀j,EF Y e b1 b2 j\/j=p->j<P.heap.size from λj h=>h.elim (λh=>b4.eng.lt (b4.eng.ef_below e0 h)) λh=>by have:=aa b4.top.blk;omega);obtain⟨r3,r4,r5,ps,i0⟩:=n0;have e1:=zh i0;clear i0;go_wp2_with fail;obtain⟨q,hq⟩:=zx Y.heap.size;obtain⟨Z,b5⟩:=zx (Y.alloc (.cells #[name,(tick-a:Int),v] 42):Qm);have a0:Qr Y.heap.size Y Z:=by rw[b5];exact ak _ _
 have e2:=zh (show Z.heap[q]?=some (.cells #[name,(tick-a:Int),v] 42) by rw[b5,hq];exact Nu _ _);rw[<-b5,<-hq];have i1:=h8.below a0;have i2:=h9.trans (a0.mono h9.size);have I:=e1.below a0
 have n2:=zh (show∀j,EF Z e b1 b2 j\/j=p->j<P.heap.size/\j<q from λj h=>by
  have c9:j<P.heap.size:=n1 j (h.imp (λh=>h8.eng.ef_below a0 h) id);have d0:=e1.iv.2;have g4:=e1.iv.1;omega)
 clear hq b5 a0;obtain⟨J,K,L⟩:=aW e2;have Q:=aa e2;obtain⟨e3,e4,n3,-,-,-⟩:=id I.tiers.1;obtain⟨e5,e6,n4,-⟩:=id I.floors.1;subst n3 n4;obtain⟨b6,b7,R,b8,b9⟩:=eB I.blk;have c1:=aa I.blk;have n5:=zh (show cu Z (.agg #[(σ.τ.r.now:Int),σ.τ.r.name,.slice e3 σ.τ.r.l.length e4,.slice e5 σ.τ.r.fl.length e6]) σ.τ.r from⟨_,_,rfl,I.tiers.1,I.floors.1⟩);have e7:=zh (show aQ σ.τ.r.now by have:=H.now;unfold aQ;omega);have i3:=zh (show aQ (tick-a) by unfold aQ;omega);refine aC (S:=(iz Z)) 6 zk ?_ (λf=>?_)
 ·(first|exact ax _|exact aj _ _ f E|exact aj _ _ f ze|exact f)
 refine zT 0 ?_;refine zT 1 ?_;refine zT 2 ?_;refine zT 3 ?_;refine zT 4 ?_;refine zO 5 λn6 e8=>?_
 go_simp;refine zb (nu _ σ.τ.r name (tick-a) v _ (n5.below f.1) e7 zo i3) λa1 E=>?_
 refine zE e8 (by first|exact ax _|exact aj _ _ f E|exact aj _ _ f ze|exact f) λf=>?_
 refine zF ?_;have i4:=i1.below f.1;have i5:=i2.trans (f.1.mono i2.size);have c2:=zh (ab e2 f.1);have n7:=I.below f.1;have n8:=zh (show∀j,EF a1 e b1 b2 j\/j=p->j<P.heap.size/\j<q from λj h=>n2 j (h.imp (λh=>i1.eng.ef_below f.1 h) id));obtain⟨n9,c3⟩:=zy (σ.τ.r.takes name (tick-a));rw[<-c3];clear f J K L Q b6 b7 R b8 b9 c1;obtain⟨J,K,L⟩:=aW c2;have Q:=aa c2;go_wp2_with fail;obtain⟨e9,c4⟩:=zx (a1.alloc (.cells #[name,(tick-a:Int),v] 42):Qm);have T:Qr a1.heap.size a1 e9:=by rw[c4];exact ak _ _
 obtain⟨f0,f1⟩:=zx a1.heap.size;have i6:e9.heap[f0]?=some (.cells #[name,(tick-a:Int),v] 42):=by rw[c4,f1];exact Nu _ _
 rw[<-c4,<-f1];have o0:=i4.below T;have o1:=i5.trans (T.mono i5.size);have i7:=zh (And.intro (ab c2 T) i6);have i8:=n7.below T
 have c5:=zh (show∀j,EF e9 e b1 b2 j\/j=p->j<P.heap.size/\j<q/\j<f0 from λj h=>by
  have c9:=n8 j (h.imp (λh=>i4.eng.ef_below T h) id);have d0:=aa c2;omega)
 clear c4 T i6 f1 J K L Q
 refine(KP (x:=⟨name,tick-a,v⟩) o0 H D.1 D.2.1 h5.1 (by have:=h5.2;omega) zo zo (bC 3 (c:=1) (l:= [ba.mk name (tick-a) v]) i7.2 rfl ⟨Nt 1,zd⟩) (λj h=>by
  have h:j=f0:=h.2.symm;exact⟨λM=>by have:=(c5 j (.inl M)).2.2;omega,λM=>by have:=(c5 j (.inr M)).2.2;omega⟩) ⟨by show name.size<=15;omega,⟨by show 0<=tick-a;omega,by show tick-a<=σ.τ.r.now;rw[D.2.2.1];omega⟩,l3⟩).mono ?_
 rintro y o2 ⟨rfl,r6,r7,r8,c6,f2,o3,f3⟩;have i9:σ.τ.r.takes (ba.mk name (tick-a) v).name (ba.mk name (tick-a) v).time=n9:=c3.symm;have a2:=Ak (x:=⟨name,tick-a,v⟩) H D.1 D.2.1 ⟨by show name.size<=15;omega,⟨by show 0<=tick-a;omega,by show tick-a<=σ.τ.r.now;rw[D.2.2.1];omega⟩,l3⟩;rw[i9] at c6 a2⊢;rw[D.2.2.2.1,D.2.2.2.2] at a2;obtain⟨σ',j0⟩:=zy (uP σ ⟨name,tick-a,v⟩);rw[<-j0] at f2 a2;have c7:=zh a2;have j1:=zh (show Qr w.heap.size w o2 from o1.trans (o3.mono d5));have o4:=f3.keep i7.1 λM=>by have:=(c5 q M).2.1;omega
 have o5:=i8.step f3.size λk r9 s0=>f3.block k (by have:=i8.iv.2;omega) λM=>by have:=(c5 k M).1;omega
 clear i9 a2;go_wp2_with fail;refine zb (yZ c6 f2 c7) λj2 a3=>?_
 have o6:=zh (And.intro (c6.blk) (f2.below a3));have j3:=zh (ab c6.blk a3);have a4:=j1.trans (a3.mono j1.size);have f4:=zh (ab o4 a3);have a5:=o5.below a3;have j4:=zh (lN (r:=σ.τ.r) (nm:=name) (t:=tick-a) H.pol.len.1 ⟨zo,by rw[D.2.2.1];omega⟩);rw[<-c3] at j4;rcases j4.out with⟨a6,a7,a8⟩|⟨a6,a7⟩|⟨a6,a7,a8⟩
 ·subst a6
  obtain⟨-,W,-,-,-,-,-⟩:=dT j3;have X:=aa j3;clear a7;have s1:=zh a8;clear a8;go_wp2_with fail;refine(hT o6.2 c7.ok).mono ?_;rintro x s2 ⟨s3,rfl,o7,m9,f5⟩;have j5:=a4.trans (f5.mono a4.size);have o8:=zh (ab f4 f5);have o9:=a5.below f5;clear W X;go_wp2_with fail;refine(hJ o7 c7.ok).mono ?_;rintro x j6 ⟨R,rfl,p0,f6⟩;have j7:=j5.trans (f6.mono j5.size);have p1:=zh (ab o8 f6);have p2:=o9.below f6;obtain⟨s4,s5,s6,s7,j8⟩:=p0;have p3:=zh j8;clear j8;obtain⟨F,f7⟩:=zx (σ.τ.r.l.length:Nat);have a9:=zh (And.intro f7 (show F<=5 by rw[f7];exact H.pol.len.2));have s8:F<=5:=a9.2;clear f7;go_wp2_with fail;go_loopw [19] (λi wr=> ∃(j:Nat),j<=F/\i= .int .i64 j/\Qs (Qr j6.heap.size j6 wr)) (λi _=>F-(intOf i).toNat)
  case atStart=>exact⟨0,Nx _,rfl,zh zr⟩
  case round=>
   obtain⟨j,h,rfl,U⟩:=hrel;have j9:=zh (ab p1 U);have c8:=p2.below U;have p4:=p3.below U;obtain⟨J,K,L⟩:=aW j9;have Q:=aa j9;obtain⟨b6,b7,R,b8,b9⟩:=eB c8.blk;rw[<-a9.1] at R;have c1:=aa c8.blk;by_cases k0:j<F
   ·have p5:=zh (show cu wr (.agg #[(σ.τ.r.now:Int),σ.τ.r.name,.slice e3 F e4,.slice e5 σ.τ.r.fl.length e6]) σ.τ.r from⟨_,_,rfl,by have:=c8.tiers.1;rw[<-a9.1] at this;exact this,c8.floors.1⟩)
    obtain⟨k1,f8⟩:=zx ((σ.τ.r.start j (tick-a)).1);obtain⟨k2,f9⟩:=zx ((σ.τ.r.start j (tick-a)).2);have g0:=λ(u:Qm) (p6:Qr wr.heap.size wr u)=>sC _ σ.τ.r j (tick-a) u (p5.below p6) e7 (by unfold aQ;omega) i3
    rw[<-f8,<-f9] at g0;have p7:=zh g0;have k3:=zh (And.intro f8 f9);clear f8 f9 g0;go_wp2_with fail;go_region_with (refine(p7 wr.drew (zr.drew)).mono ?_;rintro x k4 ⟨rfl,E⟩;have k5:=zh (show Qr wr.heap.size wr k4 from ec E))
    all_goals
     clear J K L Q b6 b7 R b8 b9 c1;have k6:=U.trans (k5.mono U.size);have p8:=p4.below k5;obtain⟨p9,g1⟩:=zx (σ'.τ.tabs.getD j none:Option ay);have k7:σ'.τ.tabs.length=F:=by rw[c7.tabs,a9.1,D.2.2.2.2]
     have q0:=zh (show p9=if k2 then some ⟨name,k1,dP v⟩ else none by
      have e:σ'=tq σ ⟨name,tick-a,v⟩:=by rw[j0];unfold uP;rw[NH (show σ.τ.r.takes name (tick-a)=0 from c3.symm)]
      rw[g1,e];show(dG σ.τ.r _ σ.τ.r.l.length σ.τ.r.l.length).getD j none=_;rw[xq _ _ (by rw[<-a9.1];exact k0)];unfold ph;rw[k3.1,k3.2];rw[show rR [v]=dP v by show ea aF.zero _=_;unfold ea;exact NH (show aF.zero.c=0 from rfl)])
     have g2:=zh (And.intro g1 k7);clear g1 k7;go_wp2_with fail;refine(gG p8 j (by rw[g2.2];exact k0) (by rw[g2.2];omega)).mono ?_;rintro x P ⟨u,rfl,k8,b3⟩;rw[<-g2.1,q0] at k8;have k9:=k6.trans (b3.mono (by have:=k6.size;omega));have b0:=(aB.own k8).1;cases k2 with
     |false=>
      obtain⟨q1,q2,rfl,-,-⟩:=id b0;clear b0;go_wp2_with fail;go_roundw
      case rel=>exact⟨j+1,zo,by go_num,k9⟩
      case measure=>simp[intOf];omega
     |true=>
      obtain⟨q1,q2,rfl,-,-⟩:=id b0;obtain⟨g,o,rfl,s9,g3⟩:=b0.elem (λ_=>rfl) (j:=0) (x:=⟨name,k1,dP v⟩) rfl;have q3:=g3 1 _ rfl;have l0:=g3 2 _ rfl;rw[Ox,NR] at q3 l0;dsimp only[dP] at l0;clear b0 g3;go_wp2_with fail;go_roundw
      case rel=>exact⟨j+1,zo,by go_num,k9⟩
      case measure=>simp[intOf];omega
   ·obtain rfl:j=F:=zo
    clear J K L;go_wp2;go_ret;exact⟨rfl,j7.trans (U.mono j7.size)⟩
 ·subst a6
  clear a7;go_wp2_with fail;go_quiet (fail);go_wp2;go_ret;exact⟨rfl,dU a4 _⟩
 ·subst a6
  obtain⟨J,K,L⟩:=aW f4;have Q:=aa f4;obtain⟨b6,b7,R,b8,b9⟩:=eB a5.blk;have c1:=aa a5.blk;have q4:=zh (show cu j2 (.agg #[(σ.τ.r.now:Int),σ.τ.r.name,.slice e3 σ.τ.r.l.length e4,.slice e5 σ.τ.r.fl.length e6]) σ.τ.r from⟨_,_,rfl,a5.tiers.1,a5.floors.1⟩);have t0:decide (tick-a<σ.τ.r.from 0)=true:=NV a8;clear a7 a8;go_wp2_with fail;refine aC (S:=(iz j2)) 16 zk ?_ (λf=>?_)
  ·(first|exact ax _|exact aj _ _ f E|exact aj _ _ f ze|exact f)
  refine zT 0 ?_;refine zT 1 ?_;refine zT 2 ?_;refine zT 3 ?_;refine zT 4 ?_;refine zT 5 ?_;refine zT 6 ?_;refine zT 7 ?_;refine zT 8 ?_;refine zO 9 λn6 e8=>?_
  go_simp;refine zb (cH _ σ.τ.r 0 _ (q4.below f.1) e7 (by unfold aQ;omega)) λk4 E=>?_
  refine zE e8 (by first|exact ax _|exact aj _ _ f E|exact aj _ _ f ze|exact f) λf=>?_
  refine zT 10 ?_;refine zT 11 ?_;refine zT 12 ?_;refine zT 13 ?_;refine zT 14 ?_;refine zT 15 ?_;refine zF ?_;go_wp2;go_ret;exact⟨rfl,a4.trans (f.1.mono a4.size)⟩
end Go.Proofs.YtdflhgceeloijaaGreatDoor
