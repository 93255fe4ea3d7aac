import Derived.Test.YtdflhgceeloijaaGreatDoorZ1
import Derived.Test.YtdflhgceeloijaaGreatDoorZ4
import Derived.Test.YtdflhgceeloijaaGreatDoorZ5
import Derived.Lib.MinMax
import Derived.Test.YtdflhgceeloijaaGreatDoorSf
set_option linter.all false
set_option maxRecDepth 100000
set_option maxHeartbeats 16000000
namespace Go.Proofs.YtdflhgceeloijaaGreatDoor
open Go Go.RowKit Tryz
open Tryz renaming prog→zP
open Go renaming World→Qm,Value→Qn,Calls→Qo,TypeId→Qp,Ending→Qq
open Go.RowKit renaming Below→Qr,Hid→Qs
section
variable{w w' w1 u:Qm}{b:SB}{S:au}{B E s t:Nat}
def FI(w:Qm)(S:au)(e:Qq)(w':Qm):Prop:= ∃b,e= .returned (.tuple #[b.s,()])/\Qs (bJ w' b S)/\Qs (∀k,b.own k->w.heap.size<=k)/\Qs (Qr w.heap.size w w')
def FJ(a m:Int)(s n:ByteArray)(l:List ah)(w:Qm)(x:0<=a/\a<=4096)(y:fR s n l)(h:cD n l=true)(A:s.size<=1000000)(B:w.cell? ⟨0,0,none⟩=some (.int .i64 m))(J:0<w.heap.size):
 Qo zP 61 #[a,s] w (FI w ⟨a,dJ.empty ⟨0,n,l,[]⟩,none⟩):=by
 go_enter func61,ntmps61;go_wp2_with fail;refine zb (qT _ _ x) λw1 f=>?_
 go_wp2_with fail;refine(nz s n l m w1 y h A (ae B f)).mono ?_;rintro e i ⟨C,rfl,g,D,j⟩;have B2:=ai f j;obtain⟨E,F,rfl,-⟩:=id g;go_wp2_with fail;refine(kw (r:=⟨0,n,l,[]⟩) (g.below ze) (fg _) h ⟨Ov _,by show(0:Int)<=1099511627776;decide⟩ ⟨Nx _,λk d=>absurd d zm⟩).mono ?_;rintro e o ⟨H,rfl,p,t⟩;have v:=ai B2 (ai (ak i _) t);have I:=B2.size;go_wp2;go_ret2;have q:=qU (w:=w) (u:=o) (S:=⟨a,dJ.empty ⟨0,n,l,[]⟩,none⟩) (bs:=0) (es:=0) (c:=0) v p zu (λσ d=>by cases d) (λ_=>⟨rfl,rfl⟩) rfl rfl;exact⟨_,rfl,q⟩
def fy(w:Qm)(b:SB)(S:au)(v:Qn)(e:Qq)(w':Qm):Prop:= ∃a,e= .returned v/\a.s=b.s/\Qs (bJ w' a S)/\Qs (∀k,a.own k->b.own k\/w.heap.size<=k)/\Qs (Ch b.own w w')
def bJ.tick{τ:dJ}(c:bJ w b S)(g:Ch (λk=>b.bt<=k/\k<b.et) w w')(l:dY w' b.bt b.et b.t τ):bJ w' b {S with τ:=τ}:=
 ⟨(g.block _ (aa c.blk) λe=>((c.apart b.s).1 e).1 rfl).trans c.blk,l,λσ h=>by
  obtain⟨a,d,e,f,hq⟩:=c.sh σ h;exact⟨a,d,e,f,hq.step g.size λk i j=>g.block k (by have:=hq.iv.2;omega) λe=>((c.apart k).1 e).2 ⟨i,j⟩⟩,c.no,c.apart⟩
def JD{k:Nat}(a:b.bt<=k/\k<b.et):b.own k:= .inr (.inl a)
def CM(H:Qs (bJ w b S))(r:S.ok)(A:Qs (S.sh=none))(B:Qs (∀o∈S.τ.tabs,o=none))(n:Int)(C:0<=n)(D:0<=S.τ.r.now/\S.τ.r.now+n<=1099511627776):
 Qo zP 22 #[b.s,n] w (fy w b {S with τ:=⟨{S.τ.r with now:=S.τ.r.now+n},S.τ.tabs⟩} (.int .i64 0)):=by
 have h:=zh (r.len H);clear r;go_enter func22,ntmps22;go_wp2_with fail;refine zb (eY H) λw1 i=>?_
 have a:=H.below i;obtain⟨E,F,I,ps,j⟩:=a.tr;have s:=zh j;obtain⟨c0,l,c⟩:=aW a.blk;have m:=aa a.blk;clear j;go_wp2_with fail;refine(yx s h.1 (by have:=h.2;omega) B n C D).mono ?_;rintro e p ⟨rfl,t,q⟩;have f:=zh (a.tick q t);have u:=zh (show Ch b.own w p from(Ch.fresh i).trans (q.mono λk _ g=>JD g));clear c0 l c m;obtain⟨c0,l,c⟩:=aW f.blk;have m:=aa f.blk;unfold au.chV at c;rw[show({S with τ:=⟨{S.τ.r with now:=S.τ.r.now+n},S.τ.tabs⟩}:au).sh=none from A] at c;go_wp2_with fail;refine zJ p 10 (zL [?_,?_,?_,?_,?_,?_,?_,?_,?_,?_]) zq ?_;rotate_right
 iterate 9
  refine zV ?_
 refine aw zk rfl rfl ?_ ?_
 ·intro w1 d v J x;have K:=d.2;go_simp;refine zb (CH _ _) λL y=>?_;exact x.out _ _ zz y
 simp only[zS];refine zD λM d v=>?_
 go_wp2;go_ret;exact⟨b,rfl,rfl,f.below d.1,λk g=> .inl g,u.trans (Ch.fresh d.1)⟩
def CN(x:Int)(w:Qm)(a:0<=x/\x<=1000000):Qo zP 83 #[x,()] w (aK w (.int .i64 x)):=by
 have:=qS x 0 w a ⟨Ov _,zd⟩;rw[Int.add_zero] at this;exact this
def bJ.swap{τ:dJ}{f g d:Nat}(e:bJ w b S)(i:S.sh=none)(n:dY w f g d τ)(j: ∀k,f<=k->k<g->k≠b.s):
 bJ (w.setCell ⟨b.s,1,none⟩ (.pointer (some ⟨d,0,none⟩))) {b with bt:=f,et:=g,t:=d} {S with τ:=τ}:=by
 have a: ∀k,k≠b.s->(w.setCell ⟨b.s,1,none⟩ (.pointer (some ⟨d,0,none⟩))).heap[k]?=w.heap[k]?:=λk a=>af _ a
 refine⟨by rw[al e.blk];rfl,n.step zm λk l m=>a k (j k l m),λσ c=>?_,e.no,λk=>⟨λa=>⟨j k a.1 a.2,λh=>?_⟩,(e.apart k).2⟩⟩
 ·have c:σ∈S.sh:=c
  rw[i] at c;cases c
 ·have h:b.bs<=k/\k<b.es:=h
  have:=e.no i;omega
def FK(H:Qs (bJ w b S))(m:S.ok)(A:Qs (S.sh=none))(b0:Qs (aQ S.τ.r.now))(b1:Qs (∀k,k<S.τ.r.l.length->aQ (S.τ.r.l.getD k ah.zero).every/\1<=(S.τ.r.l.getD k ah.zero).every))(b2:Qs (S.τ.tabs=List.replicate S.τ.r.l.length none))(v:Qn)(x:ba)(V:Qs (aB 3 ba.cells w v [x]))
 (b3:Qs (x.name.size<=9223372036854775807/\aQ x.time/\aQ x.value)) (h:S.τ.r.takes x.name x.time=0) (b4:Qs x.good) (b5:Qs (cz (dG S.τ.r x S.τ.r.l.length S.τ.r.l.length) S.τ.r.l.length<=S.room)):
 Qo zP 138 #[b.s,v] w (fy w b {S with τ:=⟨S.τ.r,dG S.τ.r x S.τ.r.l.length S.τ.r.l.length⟩} (.int .i64 0)):=by
 have C:=zh (m.len H);have W:=zh (show S.τ.r.fl.length<=100 by have:=m.fl;omega);have X:=zh h;have D:=zh (show 0<S.τ.r.l.length/\S.τ.r.l.length<=5 from⟨(aN m.pol).2.1,(aN m.pol).1⟩);obtain⟨va,vc,rfl,-,-⟩:=id V;clear m h;go_enter func138,ntmps138;go_wp2_with fail;refine zb (eY H) λw1 n=>?_
 have g:=H.below n;obtain⟨b6,b7,b8,ps,h⟩:=g.tr;have Y:=zh h;obtain⟨c0,p,d⟩:=aW g.blk;have q:=aa g.blk;clear h;go_wp2_with fail;refine(fU Y (by have:=C.2;omega) W).mono ?_;rintro e Z ⟨K,rfl,r,i⟩;have B2:=ai n i;have b9:=g.below i;obtain⟨c1,c2,c3,c4,r⟩:=r;have a0:=zh r;clear r c0 p d;go_wp2_with fail;refine(Cz a0 C.1 (by have:=C.2;omega) b0 b1 b2 _ x (V.below B2) b3 X b4).mono ?_;rintro e L ⟨rfl,s,M⟩;obtain⟨c5,c6,c7,c8,s⟩:=s;have O:=zh s;have a1:=n.size;have a2:=i.size;have a3:=zh (show Qr w.heap.size w L from B2.trans (M.below (λk c=>zo) B2.size));have E:=g.below (i.trans (M.below (B:=w1.heap.size) (λk c=>c.1) i.size));clear s q a1 a2;obtain⟨c0,p,d⟩:=aW E.blk;have q:=aa E.blk;unfold au.chV at d;rw[A] at d;have F:Qs ((dG S.τ.r x S.τ.r.l.length S.τ.r.l.length).length=S.τ.r.l.length):=mu _ _ _ _;obtain⟨N,I⟩:=zy (cz (dG S.τ.r x S.τ.r.l.length S.τ.r.l.length) S.τ.r.l.length);have P:=fw (dG S.τ.r x S.τ.r.l.length S.τ.r.l.length) S.τ.r.l.length;rw[<-I] at P;have a4:=zh (show 0<=N/\N<=1000000 by have:=D.2;omega);have c9:decide (S.room<N)=false:=NQ (by rw[I];have:=b5.out;omega);clear P;go_wp2_with fail;refine zJ L 30 (zL [?_,?_,?_,?_,?_,?_,?_,?_,?_,?_,?_,?_,?_,?_,?_,?_,?_,?_,?_,?_,?_,?_,?_,?_,?_,?_,?_,?_,?_,?_]) zq ?_;rotate_right;refine zV ?_;refine aw zk rfl rfl ?_ ?_
 ·intro w1 a j J f;have Q:=a.2;go_simp;refine zb (iL (O.below a.1) (by show 0<(dG _ _ _ _).length;rw[F];exact D.1) (by show(dG _ _ _ _).length<=100;rw[F];have:=D.2;omega)) λR l=>?_;rw[show(dJ.mk S.τ.r (dG S.τ.r x S.τ.r.l.length S.τ.r.l.length)).tabs.length=S.τ.r.l.length from F,<-I];exact f.out _ _ zz l
 iterate 4
  refine zV ?_
 refine aw zk rfl rfl ?_ ?_
 ·intro w1 a j J f;have Q:=a.2;go_simp;refine zb (qQ _) λR l=>?_;exact f.out _ _ zz l
 refine aw zk rfl rfl ?_ ?_
 ·intro w1 a j J f;have Q:=a.2;go_simp;refine zb (CN _ _ a4) λR l=>?_;exact f.out _ _ zz l
 iterate 13
  refine zV ?_
 iterate 7
  refine aw zk rfl rfl ?_ ?_
  ·intro w1 a j J f;rw[NB (by simp[Region.wanted,yielded,undef])];exact f.out _ _ (by rfl) zr
  simp only[zS]
 iterate 2
  refine zV ?_
 refine zD λT a j=>?_
 have t:=E.below a.1;have a5:=O.below a.1;have a6:=ai a3 a.1;have d0:=aa g.blk;have d1:=n.size;clear j a c0 p d q;obtain⟨c0,p,d⟩:=aW t.blk;have q:=aa t.blk;have d2:=ad (o:=1) t.blk;unfold au.chV at d;rw[A] at d;obtain⟨a7,u⟩:=zx (T.setCell ⟨b.s,1,none⟩ (.pointer (some ⟨K,0,none⟩)));have y:=t.swap A ⟨_,_,_,_,a5⟩ (λk d3 d4=>zo);have a8:=zh (show Ch b.own w a7 by rw[u];exact aP (Ch.fresh a6) (.inl (.inl rfl)));rw[<-u] at y
 have d5:(T.setCell ⟨b.s,1,none⟩ (.pointer (some ⟨K,0,none⟩))).cell? ⟨b.s,2,none⟩=some (.pointer none):=by
  have:=(aW y.blk).2.2;unfold au.chV at this;rw[show({S with τ:=⟨S.τ.r,dG S.τ.r x S.τ.r.l.length S.τ.r.l.length⟩}:au).sh=none from A] at this;rw[<-u];exact this
 have a9:=zh y;clear y;go_wp2_with fail;rw[<-u];refine zb (CG _ _ _) λd6 U=>?_
 go_wp2;go_ret;refine⟨_,rfl,?_,a9.below U,λk c=>?_,a8.trans (Ch.fresh U)⟩
 ·rfl
 ·rcases c with c|c|c
  ·exact .inl (.inl c)
  ·exact .inr (by have c:w1.heap.size<=k/\k<Z.heap.size:=c;omega)
  ·exact .inl (.inr (.inr c))
end
section
variable{w w' w1 u:Qm}{b:SB}{S:au}{B E s t:Nat}
def bJ.begin{i j c0:Nat}{σ:el}(h:bJ w b S)(m:nH w i j c0 σ)(l: ∀k,i<=k->k<j->k≠b.s/\ ¬(b.bt<=k/\k<b.et)):
 bJ (w.setCell ⟨b.s,2,none⟩ (.pointer (some ⟨c0,0,none⟩))) {b with bs:=i,es:=j,c:=c0} {S with sh:=some σ}:=by
 have g: ∀k,k≠b.s->(w.setCell ⟨b.s,2,none⟩ (.pointer (some ⟨c0,0,none⟩))).heap[k]?=w.heap[k]?:=λk g=>af _ g
 refine⟨by rw[al h.blk];rfl,h.tr.step zm λk d a=>g k ((h.apart k).1 ⟨d,a⟩).1,λσ' f=>?_,(λe=>by cases e),λk=>⟨λd=>⟨((h.apart k).1 d).1,λa=>(l k a.1 a.2).2 d⟩,λa=>(l k a.1 a.2).1⟩⟩;have f:some σ=some σ':=f;injection f with f
 subst f;exact m.step zm λk d a=>g k (l k d a).1
def we(W:bJ w b S)(J:S.ok)(b9:S.sh=none)(x n:ByteArray)(l:List ah)(m:Int)(e4:fR x n l)(h:cD n l=true)(e5:x.size<=1000000)(e6:w.cell? ⟨0,0,none⟩=some (.int .i64 m))(c1:(bh S.τ.r n l).can S.τ)(K:cz S.τ.tabs S.τ.tabs.length+cw S.τ (bh S.τ.r n l)<=S.room):
 Qo zP 74 #[.pointer (some ⟨b.s,0,none⟩),.string x] w (fy w b {S with sh:=some (el.empty (bh S.τ.r n l) (cw S.τ (bh S.τ.r n l)) 0)} (.tuple #[.int .i64 0,.int .i64 0])):=by
 have H:=zh W;have L:=zh (J.len W);have c2:=zh b9;have c3:=zh J.pol;have X:=zh h;have c4:=zh c1;have e7:=zh K;have c5:=zh J.room;obtain⟨t,C⟩:=zx (cw S.τ (bh S.τ.r n l))
 have Y:0<=t:=by
  rw[C];have:=(bh S.τ.r n l).fills_bd (cE h);have:=fw ((bh S.τ.r n l).built S.τ).tabs ((bh S.τ.r n l).built S.τ).tabs.length;unfold cw PV.bound;omega
 have e8:=zh Y;have Z:=fw S.τ.tabs S.τ.tabs.length;have c6:=zh C;rw[<-C] at K⊢;obtain⟨N,f⟩:=zx (cz S.τ.tabs S.τ.tabs.length);rw[<-f] at Z K;have c7:=zh f;have a0:=zh (show(0<=N/\N<=1000000)/\0<=t/\t<=1000000 by have:=L.2;have:=c5.out;omega);have e9:=zi (S.room<N+t);obtain⟨σ,M⟩:=zy (el.empty (bh S.τ.r n l) t 0);rw[<-M];have c8:=zh (show σ.bound=t by rw[M];rfl);clear W J b9 h c1 K Y C f Z;go_enter func74,ntmps74;go_wp2_with fail;refine zb (eY H) λw1 O=>?_
 have P:=H.below O;obtain⟨c0,u,i⟩:=aW P.blk;have v:=aa P.blk;have a1:=ae e6 O;unfold au.chV at i;rw[c2] at i;go_wp2_with fail;refine(nz x n l m w1 e4 X e5 a1).mono ?_;rintro e j ⟨p,rfl,a2,f0,a3⟩;have B2:=ai O a3;have c9:=P.below a3;obtain⟨a4,a5,rfl,-⟩:=id a2;clear a1 c0 u i v;go_wp2_with fail;obtain⟨g,D⟩:=zx (j.alloc (.cells #[.string n,.slice a4 l.length a5] 32));have E:Qr j.heap.size j g:=by rw[D];exact ak _ _
 have a6:=zh (show g.heap[j.heap.size]?=some (.cells #[.string n,.slice a4 l.length a5] 32) by rw[D];exact ag rfl);have y:=c9.below E;have d0:=a2.below E;have a7:=ai B2 E;rw[<-D];clear D E;obtain⟨c0,u,i⟩:=aW y.blk;obtain⟨d1,F⟩:=bE a6;have v:=aa y.blk;have d2:=aa a6;obtain⟨p,f1,A,ps,a8⟩:=y.tr;have TW:=zh a8;clear a8;refine zJ g 12 (zL [?_,?_,?_,?_,?_,?_]++(CF g σ)::(CF g σ)::(vY g σ)::zL [?_]++(vY g σ)::zL [?_]) zq ?_;rotate_right
 iterate 6
  refine zV ?_
 refine aT zk rfl rfl ?_ λf2=>?_
 ·intro w1 a c q d;have r:=a.2;go_simp;refine(yz (n1:=n) (ql:=l) (TW.below a.1) ⟨_,rfl,d0.below a.1⟩ c3 X c4).mono ?_;rintro e f3 ⟨Q,a9,b0,b1,b2,rfl,f⟩;rw[<-c6,<-M] at f;exact d.out _ _ _ zg ⟨Q,a9,b0,b1,b2,rfl,f.base a.1⟩ f.bel
 simp only[zS];refine aT zk rfl rfl ?_ λb3=>?_
 ·intro w1 a c q d;have r:=a.2;go_simp;exact d.out _ _ _ zg (c.out 6 zk) zr
 simp only[zS];refine aT zk rfl rfl ?_ λf4=>?_
 ·intro w1 a c q d;have r:=a.2;go_simp;obtain⟨b4,b5,b6,b7,F,rfl,f⟩: ∃s p sv A ps,b3= .tuple #[.pointer (some ⟨s,0,none⟩),.int .i64 0]/\kW g w1 s σ p sv A ps:=c.out 7 zk;go_simp;exact d.out _ _ _ zg ⟨b4,b5,b6,b7,F,rfl,f⟩ zr
 simp only[zS];refine aw zk rfl rfl ?_ ?_
 ·intro w1 a c q d;have r:=a.2;go_simp;obtain⟨b4,b5,b6,b7,F,rfl,f⟩: ∃s p sv A ps,b3= .tuple #[.pointer (some ⟨s,0,none⟩),.int .i64 0]/\kW g w1 s σ p sv A ps:=c.out 7 zk;go_simp;exact d.out _ _ zz zr
 refine aT zk rfl rfl ?_ λd3=>?_
 ·intro w1 a c q d;have r:=a.2;go_simp;exact d.out _ _ _ zg (c.out 8 zk) zr
 simp only[zS];refine zV ?_;refine zD λR a c=>?_
 obtain⟨Q,a9,b0,b1,b2,d4,f⟩: ∃s p sv A ps,d3= .pointer (some ⟨s,0,none⟩)/\kW g R s σ p sv A ps:=c.out 10;subst d4;have b8:=zh f.at;have d5:=ai a7 a.1;have T:=y.below a.1;have d6:=TW.below a.1;clear f a c c0 u i d1 F v d2;obtain⟨c0,u,i⟩:=aW T.blk;have v:=aa T.blk;go_wp2_with fail;refine zJ R 15 (zL [?_,?_,?_,?_,?_,?_,?_,?_,?_,?_,?_,?_,?_,?_,?_]) zq ?_;rotate_right
 iterate 5
  refine zV ?_
 refine aw zk rfl rfl ?_ ?_
 ·intro w1 a c q d;have r:=a.2;go_simp;refine zb (iL (d6.below a.1) L.1 (by have:=L.2;omega)) λj B=>?_;rw[<-c7];exact d.out _ _ zz B
 refine zV ?_;refine aw zk rfl rfl ?_ ?_
 ·intro w1 a c q d;have r:=a.2;go_simp;refine zb (lF (b8.below a.1)) λj B=>?_;rw[c8];exact d.out _ _ zz B
 refine aw zk rfl rfl ?_ ?_
 ·intro w1 a c q d;have r:=a.2;go_simp;refine zb (qS _ _ _ a0.1 a0.2) λj B=>?_;exact d.out _ _ zz B
 iterate 6
  refine zV ?_
 refine zD λd7 a c=>?_
 have I:=T.below a.1;have d8:=b8.below a.1;have d9:=ai d5 a.1;clear c a c0 u i v;obtain⟨c0,u,i⟩:=aW I.blk;have v:=aa I.blk;have f5:=ad (o:=2) I.blk;have f6:w.heap.size<=g.heap.size:=a7.size;obtain⟨e0,U⟩:=zx (d7.setCell ⟨b.s,2,none⟩ (.pointer (some ⟨Q,0,none⟩)));have V:=I.begin ⟨_,_,_,_,d8⟩ (λk f7 f8=>⟨by have:=aa y.blk;omega,λe1=>by have:=y.lt (JD e1);omega⟩);have e2:=zh (show Ch b.own w e0 by rw[U];exact aP (Ch.fresh d9) (.inl (.inl rfl)));rw[<-U] at V;have e3:=zh V;clear V;go_wp2_with fail;rw[<-U];go_ret2;refine⟨_,rfl,?_,e3,λk h=>?_,e2⟩
 ·rfl
 ·rcases h with h|h|h
  ·exact .inl (.inl h)
  ·exact .inl (.inr (.inl h))
  ·exact .inr (by have h:g.heap.size<=k/\k<R.heap.size:=h;omega)
end
section
variable{w w' w1 u:Qm}{b:SB}{S:au}{B E s t:Nat}
def Ch.cellk{F:Nat->Prop}(a:Ch F w w'){k o:Nat}(c:k<w.heap.size)(d: ¬F k):w'.cell? ⟨k,o,none⟩=w.cell? ⟨k,o,none⟩:=by
 simp[World.cell?,a.block k c d]
def bx{b k o:Nat}(a c d:Qn)(e:k≠b):(((w.setCell ⟨b,0,none⟩ a).setCell ⟨b,1,none⟩ c).setCell ⟨b,2,none⟩ d).cell? ⟨k,o,none⟩=w.cell? ⟨k,o,none⟩:=by
 simp only[World.cell?,aR a c d e]
def bJ.shadow{σ:el}(c:bJ w b S)(m:S.sh.isSome)(h:Ch (λk=>b.bs<=k/\k<b.es) w w')(n:nH w' b.bs b.es b.c σ):bJ w' b {S with sh:=some σ}:=by
 obtain⟨o,i⟩:=Option.isSome_iff_exists.1 m;refine⟨?_,?_,λσ' g=>?_,(λe=>by cases e),c.apart⟩
 ·rw[h.block _ (aa c.blk) λe=>(c.apart b.s).2 e rfl,c.blk]
  unfold au.chV;rw[i]
 ·obtain⟨a,d,e,f,hq⟩:=c.tr
  exact⟨a,d,e,f,hq.step h.size λk j l=>h.block k (by have:=hq.iv.2;omega) λe=>((c.apart k).1 ⟨j,l⟩).2 e⟩
 ·have g:some σ=some σ':=g
  injection g with g
  subst g;exact n
def kX{k:Nat}(a:b.bs<=k/\k<b.es):b.own k:= .inr (.inr a)
def mA{σ':el}{x y z:Int}(J:bJ w b S)(R:S.sh.isSome)(a8: ∀w',bJ w' b S->Qo zP 134 #[b.c,b.t] w' (uq w' b.bs b.es b.c σ' ⟨x,y,z⟩)):
 Qo zP 77 #[b.s] w (fy w b {S with sh:=some σ'} (.tuple #[.agg #[x,y,z],()])):=by
 have H:=zh J;have Z:=zh R;have a0:=zh a8
 have a1:S.chV b= .pointer (some ⟨b.c,0,none⟩):=by
  unfold au.chV;cases hq:S.sh with
  |none=>rw[hq] at R;cases R
  |some σ=>rfl
 have a9:=zh a1;clear J R a8 a1;go_enter func77,ntmps77;go_wp2_with fail;refine zb (eY (H.out.below ze)) λw1 a2=>?_
 obtain⟨a3,T⟩:=bl a2;have K:=zh a3;have Q:=zh T;have l:=H.out.below T;clear a2 a3 T;obtain⟨c0,F,B⟩:=aW l.blk;have d:=aa l.blk;have a4:=aa K.out;rw[a9.out] at B;have a5: ¬(b.bs<=w.heap.size/\w.heap.size<b.es):=λe=>by have:=H.out.lt (kX e);omega
 have a6:=zh a5;have g:=zh (show¬(b.bs<=b.s/\b.s<b.es) from λe=>(H.out.apart b.s).2 e rfl);clear a5;go_wp2_with fail;have a7:w.heap.size≠w1.heap.size:=by omega
 refine aC (S:=(λw'=>(w'.cell? ⟨b.s,1,none⟩=some (.pointer (some ⟨b.t,0,none⟩))/\w'.cell? ⟨b.s,2,none⟩=some (.pointer (some ⟨b.c,0,none⟩)))/\w1.heap.size<=w'.heap.size)) 18 (by kernel_rfl) ?_ (λa=>?_)
 ·(first|exact⟨⟨F,B⟩,Nt _⟩|exact⟨⟨(c.cellk (No d a.2) g.out).trans a.1.1,(c.cellk (No d a.2) g.out).trans a.1.2⟩,Nq a.2 c.size⟩|exact⟨⟨ae a.1.1 ze,ae a.1.2 ze⟩,Nq a.2 ze.size⟩|exact⟨⟨ae C.out ze,ae D.out ze⟩,Nq E.out ze.size⟩|exact⟨⟨(bx _ _ _ (Oi d)).trans a.1.1,(bx _ _ _ (Oi d)).trans a.1.2⟩,by simpa using a.2⟩)
 refine zU 0 ?_;refine zU 1 ?_;refine zU 2 ?_;refine zU 3 ?_;refine zU 4 ?_;refine zU 5 ?_;refine zU 6 ?_;refine zU 7 ?_;refine zU 8 ?_;refine fV (i:=9) (j:=14) rfl rfl (by kernel_rfl) (λL n=>?_) (λL n=>?_)
 ·go_simp
  refine(a0.out _ (by first|exact l.below zr.drew|exact l.below (ai zr.drew ze))).mono ?_;rintro e f ⟨rfl,M,c⟩;have N:=bJ.shadow (by first|exact l.below zr.drew|exact l.below (ai zr.drew ze)) Z.out c M;have O:=zh (show f.heap[w.heap.size]?=some (.cells #[(),(),()] 97) from c.keep (by first|exact K.out|exact ab K.out (ai zr.drew ze)) a6.out);have P:=zh (show Ch b.own w f from Ch.trans (Ch.fresh (by first|exact Q.out.drew|exact ai Q.out.drew ze)) (c.mono λk _ J=>kX J));have C:=zh (show f.cell? ⟨b.s,1,none⟩=some (.pointer (some ⟨b.t,0,none⟩)) from(c.cellk (No d a.2) g.out).trans a.1.1);have D:=zh (show f.cell? ⟨b.s,2,none⟩=some (.pointer (some ⟨b.c,0,none⟩)) from(c.cellk (No d a.2) g.out).trans a.1.2);have E:=zh (Nq a.2 c.size);clear M;(try simp only[CD.val]);refine zE n (by first|exact⟨⟨F,B⟩,Nt _⟩|exact⟨⟨(c.cellk (No d a.2) g.out).trans a.1.1,(c.cellk (No d a.2) g.out).trans a.1.2⟩,Nq a.2 c.size⟩|exact⟨⟨ae a.1.1 ze,ae a.1.2 ze⟩,Nq a.2 ze.size⟩|exact⟨⟨ae C.out ze,ae D.out ze⟩,Nq E.out ze.size⟩|exact⟨⟨(bx _ _ _ (Oi d)).trans a.1.1,(bx _ _ _ (Oi d)).trans a.1.2⟩,by simpa using a.2⟩) λa=>?_
  refine zU 10 ?_;refine zU 11 ?_;refine zU 12 ?_;refine zU 13 ?_;refine zO 14 λL n=>?_
  go_simp
  skip
  refine zE n (by first|exact⟨⟨F,B⟩,Nt _⟩|exact⟨⟨(c.cellk (No d a.2) g.out).trans a.1.1,(c.cellk (No d a.2) g.out).trans a.1.2⟩,Nq a.2 c.size⟩|exact⟨⟨ae a.1.1 ze,ae a.1.2 ze⟩,Nq a.2 ze.size⟩|exact⟨⟨ae C.out ze,ae D.out ze⟩,Nq E.out ze.size⟩|exact⟨⟨(bx _ _ _ (Oi d)).trans a.1.1,(bx _ _ _ (Oi d)).trans a.1.2⟩,by simpa using a.2⟩) λa=>?_
  refine zO 15 λL n=>?_
  (try(have p:f.heap[w1.heap.size]?=some (.cells #[(),(),()] 97):=c.keep (ag (w:=w1.drew) rfl) (λe=>absurd (l.lt (kX e)) (OX _));obtain⟨z0,z1,z2⟩:=aW p;have b0:=ad (o:=0) p;have b1:=ad (o:=1) p;have b2:=ad (o:=2) p));go_simp
  refine zE n (by first|exact⟨⟨F,B⟩,Nt _⟩|exact⟨⟨(c.cellk (No d a.2) g.out).trans a.1.1,(c.cellk (No d a.2) g.out).trans a.1.2⟩,Nq a.2 c.size⟩|exact⟨⟨ae a.1.1 ze,ae a.1.2 ze⟩,Nq a.2 ze.size⟩|exact⟨⟨ae C.out ze,ae D.out ze⟩,Nq E.out ze.size⟩|exact⟨⟨(bx _ _ _ (Oi d)).trans a.1.1,(bx _ _ _ (Oi d)).trans a.1.2⟩,by simpa using a.2⟩) λa=>?_
  refine zU 16 ?_;refine zU 17 ?_;refine zH ?_;have I:w.heap.size<=w1.heap.size:=Oc a4
  first
   |(have h:(((f.setCell ⟨w1.heap.size,0,none⟩ (.int .i64 x)).setCell ⟨w1.heap.size,1,none⟩ (.int .i64 y)).setCell ⟨w1.heap.size,2,none⟩ (.int .i64 z)).heap[w1.heap.size]?=some (.cells #[x,y,z] 97):=bW _ _ _ p
     have q:=N.step (w':=(((f.setCell ⟨w1.heap.size,0,none⟩ (.int .i64 x)).setCell ⟨w1.heap.size,1,none⟩ (.int .i64 y)).setCell ⟨w1.heap.size,2,none⟩ (.int .i64 z))) (by simp) (λk r=>aR _ _ _ (λe=>by subst e;exact absurd (l.lt r) (OX _)));have s:=(aR (.int .i64 x) (.int .i64 y) (.int .i64 z) a7).trans O.out;have t:Ch b.own w (((f.setCell ⟨w1.heap.size,0,none⟩ (.int .i64 x)).setCell ⟨w1.heap.size,1,none⟩ (.int .i64 y)).setCell ⟨w1.heap.size,2,none⟩ (.int .i64 z)):=aP (aP (aP P.out (.inr I)) (.inr I)) (.inr I);obtain⟨u,A⟩: ∃u,u=(((f.setCell ⟨w1.heap.size,0,none⟩ (.int .i64 x)).setCell ⟨w1.heap.size,1,none⟩ (.int .i64 y)).setCell ⟨w1.heap.size,2,none⟩ (.int .i64 z)):=⟨_,rfl⟩;rw[<-A] at q h s t⊢;obtain⟨U,V,W⟩:=aW h)
   |(have h:(f.alloc (.cells #[x,y,z] 97)).heap[f.heap.size]?=some (.cells #[x,y,z] 97):=ag rfl
     have q:=N.below (w':=(f.alloc (.cells #[x,y,z] 97))) ze;have s:=ab (w':=(f.alloc (.cells #[x,y,z] 97))) O.out ze;have t:Ch b.own w (f.alloc (.cells #[x,y,z] 97)):=P.out.trans (Ch.fresh ze);obtain⟨u,A⟩: ∃u,u=(f.alloc (.cells #[x,y,z] 97)):=⟨_,rfl⟩;rw[<-A] at q h s t⊢;obtain⟨U,V,W⟩:=aW h)
  have X:=zh q;have b3:=zh h;have m:=zh s;have Y:=zh t;clear A q h s t a;obtain⟨b4,b5,b6⟩:=aW m.out;have b7:=ad (o:=0) m.out;have b8:=ad (o:=1) m.out;have b9:=ad (o:=2) m.out;have c1:=aa m.out;go_wp2_with fail;refine NG (v:= .tuple #[.agg #[x,y,z],()]) (aJ results77 _ _ _ _ _ _ _ _ rfl rfl (bW _ _ _ m.out) underlying97 rfl (by kernel_rfl)) rfl ⟨b,rfl,rfl,?_,λk r=> .inl r,aP (aP (aP Y.out (.inr zl)) (.inr zl)) (.inr zl)⟩;exact X.out.step (by simp) λk r=>aR _ _ _ (λe=>by subst e;exact absurd (H.out.lt r) (OX _))
 ·go_simp
  skip
  refine zE n (by first|exact⟨⟨F,B⟩,Nt _⟩|exact⟨⟨(c.cellk (No d a.2) g.out).trans a.1.1,(c.cellk (No d a.2) g.out).trans a.1.2⟩,Nq a.2 c.size⟩|exact⟨⟨ae a.1.1 ze,ae a.1.2 ze⟩,Nq a.2 ze.size⟩|exact⟨⟨ae C.out ze,ae D.out ze⟩,Nq E.out ze.size⟩|exact⟨⟨(bx _ _ _ (Oi d)).trans a.1.1,(bx _ _ _ (Oi d)).trans a.1.2⟩,by simpa using a.2⟩) λa=>?_
  refine zO 9 λL n=>?_
  go_simp;refine(a0.out _ (by first|exact l.below zr.drew|exact l.below (ai zr.drew ze))).mono ?_;rintro e f ⟨rfl,M,c⟩;have N:=bJ.shadow (by first|exact l.below zr.drew|exact l.below (ai zr.drew ze)) Z.out c M;have O:=zh (show f.heap[w.heap.size]?=some (.cells #[(),(),()] 97) from c.keep (by first|exact K.out|exact ab K.out (ai zr.drew ze)) a6.out);have P:=zh (show Ch b.own w f from Ch.trans (Ch.fresh (by first|exact Q.out.drew|exact ai Q.out.drew ze)) (c.mono λk _ J=>kX J));have C:=zh (show f.cell? ⟨b.s,1,none⟩=some (.pointer (some ⟨b.t,0,none⟩)) from(c.cellk (No d a.2) g.out).trans a.1.1);have D:=zh (show f.cell? ⟨b.s,2,none⟩=some (.pointer (some ⟨b.c,0,none⟩)) from(c.cellk (No d a.2) g.out).trans a.1.2);have E:=zh (Nq a.2 c.size);clear M;(try simp only[CD.val]);refine zE n (by first|exact⟨⟨F,B⟩,Nt _⟩|exact⟨⟨(c.cellk (No d a.2) g.out).trans a.1.1,(c.cellk (No d a.2) g.out).trans a.1.2⟩,Nq a.2 c.size⟩|exact⟨⟨ae a.1.1 ze,ae a.1.2 ze⟩,Nq a.2 ze.size⟩|exact⟨⟨ae C.out ze,ae D.out ze⟩,Nq E.out ze.size⟩|exact⟨⟨(bx _ _ _ (Oi d)).trans a.1.1,(bx _ _ _ (Oi d)).trans a.1.2⟩,by simpa using a.2⟩) λa=>?_
  refine zU 10 ?_;refine zU 11 ?_;refine zU 12 ?_;refine zU 13 ?_;refine zO 15 λL n=>?_
  (try(have p:f.heap[w1.heap.size]?=some (.cells #[(),(),()] 97):=c.keep (ag (w:=w1.drew) rfl) (λe=>absurd (l.lt (kX e)) (OX _));obtain⟨z0,z1,z2⟩:=aW p;have b0:=ad (o:=0) p;have b1:=ad (o:=1) p;have b2:=ad (o:=2) p));go_simp
  refine zE n (by first|exact⟨⟨F,B⟩,Nt _⟩|exact⟨⟨(c.cellk (No d a.2) g.out).trans a.1.1,(c.cellk (No d a.2) g.out).trans a.1.2⟩,Nq a.2 c.size⟩|exact⟨⟨ae a.1.1 ze,ae a.1.2 ze⟩,Nq a.2 ze.size⟩|exact⟨⟨ae C.out ze,ae D.out ze⟩,Nq E.out ze.size⟩|exact⟨⟨(bx _ _ _ (Oi d)).trans a.1.1,(bx _ _ _ (Oi d)).trans a.1.2⟩,by simpa using a.2⟩) λa=>?_
  refine zU 16 ?_;refine zU 17 ?_;refine zH ?_;have I:w.heap.size<=w1.heap.size:=Oc a4
  first
   |(have h:(((f.setCell ⟨w1.heap.size,0,none⟩ (.int .i64 x)).setCell ⟨w1.heap.size,1,none⟩ (.int .i64 y)).setCell ⟨w1.heap.size,2,none⟩ (.int .i64 z)).heap[w1.heap.size]?=some (.cells #[x,y,z] 97):=bW _ _ _ p
     have q:=N.step (w':=(((f.setCell ⟨w1.heap.size,0,none⟩ (.int .i64 x)).setCell ⟨w1.heap.size,1,none⟩ (.int .i64 y)).setCell ⟨w1.heap.size,2,none⟩ (.int .i64 z))) (by simp) (λk r=>aR _ _ _ (λe=>by subst e;exact absurd (l.lt r) (OX _)));have s:=(aR (.int .i64 x) (.int .i64 y) (.int .i64 z) a7).trans O.out;have t:Ch b.own w (((f.setCell ⟨w1.heap.size,0,none⟩ (.int .i64 x)).setCell ⟨w1.heap.size,1,none⟩ (.int .i64 y)).setCell ⟨w1.heap.size,2,none⟩ (.int .i64 z)):=aP (aP (aP P.out (.inr I)) (.inr I)) (.inr I);obtain⟨u,A⟩: ∃u,u=(((f.setCell ⟨w1.heap.size,0,none⟩ (.int .i64 x)).setCell ⟨w1.heap.size,1,none⟩ (.int .i64 y)).setCell ⟨w1.heap.size,2,none⟩ (.int .i64 z)):=⟨_,rfl⟩;rw[<-A] at q h s t⊢;obtain⟨U,V,W⟩:=aW h)
   |(have h:(f.alloc (.cells #[x,y,z] 97)).heap[f.heap.size]?=some (.cells #[x,y,z] 97):=ag rfl
     have q:=N.below (w':=(f.alloc (.cells #[x,y,z] 97))) ze;have s:=ab (w':=(f.alloc (.cells #[x,y,z] 97))) O.out ze;have t:Ch b.own w (f.alloc (.cells #[x,y,z] 97)):=P.out.trans (Ch.fresh ze);obtain⟨u,A⟩: ∃u,u=(f.alloc (.cells #[x,y,z] 97)):=⟨_,rfl⟩;rw[<-A] at q h s t⊢;obtain⟨U,V,W⟩:=aW h)
  have X:=zh q;have b3:=zh h;have m:=zh s;have Y:=zh t;clear A q h s t a;obtain⟨b4,b5,b6⟩:=aW m.out;have b7:=ad (o:=0) m.out;have b8:=ad (o:=1) m.out;have b9:=ad (o:=2) m.out;have c1:=aa m.out;go_wp2_with fail;refine NG (v:= .tuple #[.agg #[x,y,z],()]) (aJ results77 _ _ _ _ _ _ _ _ rfl rfl (bW _ _ _ m.out) underlying97 rfl (by kernel_rfl)) rfl ⟨b,rfl,rfl,?_,λk r=> .inl r,aP (aP (aP Y.out (.inr zl)) (.inr zl)) (.inr zl)⟩;exact X.out.step (by simp) λk r=>aR _ _ _ (λe=>by subst e;exact absurd (H.out.lt r) (OX _))
def bJ.cut{τ:dJ}{f g e:Nat}(j:bJ w b S)(l:dY w f g e τ)(h: ∀k,f<=k->k<g->k≠b.s):
 bJ ((w.setCell ⟨b.s,1,none⟩ (.pointer (some ⟨e,0,none⟩))).setCell ⟨b.s,2,none⟩ (.pointer none)) ⟨b.s,f,g,e,0,0,0⟩ ⟨S.room,τ,none⟩:=by
 have c: ∀k,k≠b.s->((w.setCell ⟨b.s,1,none⟩ (.pointer (some ⟨e,0,none⟩))).setCell ⟨b.s,2,none⟩ (.pointer none)).heap[k]?=w.heap[k]?:=λk c=>(af _ c).trans (af _ c)
 refine⟨by rw[al (al j.blk _) _];rfl,l.step zm λk d a=>c k (h k d a),(λσ i=>by cases i),λ_=>rfl,λk=>⟨λd=>⟨h k d.1 d.2,λa=>absurd a.2 (Oy _)⟩,λa=>absurd a.2 (Oy _)⟩⟩
def sU{σ':el}{τ':dJ}(H:Qs (bJ w b S))(X:S.sh.isSome)(b3:Qs (∀w',bJ w' b S->Qo zP 134 #[b.c,b.t] w' (FH w' b.bs b.es b.c σ' τ'))):
 Qo zP 77 #[b.s] w (fy w b ⟨S.room,τ',none⟩ (.tuple #[.agg #[(3:Int),(),()],()])):=by
 have a8:=zh X
 have b4:=zh (show S.chV b= .pointer (some ⟨b.c,0,none⟩) by
  unfold au.chV;cases hq:S.sh with
  |none=>rw[hq] at X;cases X
  |some σ=>rfl)
 clear X;go_enter func77,ntmps77;go_wp2_with fail;refine zb (eY (H.below ze)) λw1 b5=>?_
 obtain⟨a9,Y⟩:=bl b5;have M:=zh a9;have W:=zh Y;have r:=H.below Y;clear a9 Y;obtain⟨c0,J,E⟩:=aW r.blk;have f:=aa r.blk;have b0:=aa M;rw[b4] at E;have b1:=zh (show¬(b.bs<=w.heap.size/\w.heap.size<b.es) from λe=>by have:=H.lt (kX e);omega);have m:=zh (show¬(b.bs<=b.s/\b.s<b.es) from λe=>(H.apart b.s).2 e rfl);go_wp2_with fail;have b2:w.heap.size≠w1.heap.size:=zo;refine aC (S:=(λw'=>(w'.cell? ⟨b.s,1,none⟩=some (.pointer (some ⟨b.t,0,none⟩))/\w'.cell? ⟨b.s,2,none⟩=some (.pointer (some ⟨b.c,0,none⟩)))/\w1.heap.size<=w'.heap.size)) 18 zk ?_ (λa=>?_)
 ·(first|exact⟨⟨J,E⟩,Nt _⟩|exact⟨⟨(d.cellk (No f a.2) m).trans a.1.1,(d.cellk (No f a.2) m).trans a.1.2⟩,Nq a.2 d.size⟩|exact⟨⟨ae a.1.1 ze,ae a.1.2 ze⟩,Nq a.2 ze.size⟩|exact⟨⟨ae F ze,ae I ze⟩,Nq s ze.size⟩|exact⟨⟨(bx _ _ _ (Oi f)).trans a.1.1,(bx _ _ _ (Oi f)).trans a.1.2⟩,by simpa using a.2⟩)
 refine zU 0 ?_;refine zU 1 ?_;refine zU 2 ?_;refine zU 3 ?_;refine zU 4 ?_;refine zU 5 ?_;refine zU 6 ?_;refine zU 7 ?_;refine zU 8 ?_;refine fV (i:=9) (j:=14) rfl rfl zk (λN u=>?_) (λN u=>?_)
 ·go_simp
  refine(b3 _ (by first|exact r.below zr.drew|exact r.below (ai zr.drew ze))).mono ?_;rintro e g ⟨O,rfl,P,Z,d⟩;have Q:=bJ.shadow (by first|exact r.below zr.drew|exact r.below (ai zr.drew ze)) a8 d Z;have R:=zh (show g.heap[w.heap.size]?=some (.cells #[(),(),()] 97) from d.keep (by first|exact M|exact ab M (ai zr.drew ze)) b1);have T:=zh (show Ch b.own w g from Ch.trans (Ch.fresh (by first|exact W.drew|exact ai W.drew ze)) (d.mono λk _ a0=>kX a0));have F:=zh (show g.cell? ⟨b.s,1,none⟩=some (.pointer (some ⟨b.t,0,none⟩)) from(d.cellk (No f a.2) m).trans a.1.1);have I:=zh (show g.cell? ⟨b.s,2,none⟩=some (.pointer (some ⟨b.c,0,none⟩)) from(d.cellk (No f a.2) m).trans a.1.2);have s:=zh (Nq a.2 d.size);(try simp only[CD.val]);refine zE u (by first|exact⟨⟨J,E⟩,Nt _⟩|exact⟨⟨(d.cellk (No f a.2) m).trans a.1.1,(d.cellk (No f a.2) m).trans a.1.2⟩,Nq a.2 d.size⟩|exact⟨⟨ae a.1.1 ze,ae a.1.2 ze⟩,Nq a.2 ze.size⟩|exact⟨⟨ae F ze,ae I ze⟩,Nq s ze.size⟩|exact⟨⟨(bx _ _ _ (Oi f)).trans a.1.1,(bx _ _ _ (Oi f)).trans a.1.2⟩,by simpa using a.2⟩) λa=>?_
  refine zU 10 ?_;refine zU 11 ?_;refine zU 12 ?_;refine zU 13 ?_;refine zO 14 λN u=>?_
  go_simp
  skip
  refine zE u (by first|exact⟨⟨J,E⟩,Nt _⟩|exact⟨⟨(d.cellk (No f a.2) m).trans a.1.1,(d.cellk (No f a.2) m).trans a.1.2⟩,Nq a.2 d.size⟩|exact⟨⟨ae a.1.1 ze,ae a.1.2 ze⟩,Nq a.2 ze.size⟩|exact⟨⟨ae F ze,ae I ze⟩,Nq s ze.size⟩|exact⟨⟨(bx _ _ _ (Oi f)).trans a.1.1,(bx _ _ _ (Oi f)).trans a.1.2⟩,by simpa using a.2⟩) λa=>?_
  refine zO 15 λN u=>?_
  (try(have x:g.heap[w1.heap.size]?=some (.cells #[(),(),()] 97):=d.keep (ag (w:=w1.drew) rfl) (λe=>absurd (r.lt (kX e)) (OX _));obtain⟨z0,z1,z2⟩:=aW x;have b6:=ad (o:=0) x;have b7:=ad (o:=1) x;have b8:=ad (o:=2) x));go_simp
  refine zE u (by first|exact⟨⟨J,E⟩,Nt _⟩|exact⟨⟨(d.cellk (No f a.2) m).trans a.1.1,(d.cellk (No f a.2) m).trans a.1.2⟩,Nq a.2 d.size⟩|exact⟨⟨ae a.1.1 ze,ae a.1.2 ze⟩,Nq a.2 ze.size⟩|exact⟨⟨ae F ze,ae I ze⟩,Nq s ze.size⟩|exact⟨⟨(bx _ _ _ (Oi f)).trans a.1.1,(bx _ _ _ (Oi f)).trans a.1.2⟩,by simpa using a.2⟩) λa=>?_
  refine zU 16 ?_;refine zU 17 ?_;refine zH ?_;have K:w.heap.size<=w1.heap.size:=Oc b0
  first
   |(have n:(((g.setCell ⟨w1.heap.size,0,none⟩ (.int .i64 3)).setCell ⟨w1.heap.size,1,none⟩ (.int .i64 0)).setCell ⟨w1.heap.size,2,none⟩ (.int .i64 0)).heap[w1.heap.size]?=some (.cells #[(3:Int),(),()] 97):=bW _ _ _ x
     have y:=Q.step (w':=(((g.setCell ⟨w1.heap.size,0,none⟩ (.int .i64 3)).setCell ⟨w1.heap.size,1,none⟩ (.int .i64 0)).setCell ⟨w1.heap.size,2,none⟩ (.int .i64 0))) zm (λk c=>aR _ _ _ (λe=>by subst e;exact absurd (r.lt c) (OX _)));have A:=(aR (.int .i64 3) (.int .i64 0) (.int .i64 0) b2).trans R;have B:Ch b.own w (((g.setCell ⟨w1.heap.size,0,none⟩ (.int .i64 3)).setCell ⟨w1.heap.size,1,none⟩ (.int .i64 0)).setCell ⟨w1.heap.size,2,none⟩ (.int .i64 0)):=aP (aP (aP T (.inr K)) (.inr K)) (.inr K);obtain⟨p,q⟩:=zx (((g.setCell ⟨w1.heap.size,0,none⟩ (.int .i64 3)).setCell ⟨w1.heap.size,1,none⟩ (.int .i64 0)).setCell ⟨w1.heap.size,2,none⟩ (.int .i64 0));rw[<-q] at y n A B⊢;obtain⟨a1,a2,a3⟩:=aW n)
   |(have n:(g.alloc (.cells #[(3:Int),(),()] 97)).heap[g.heap.size]?=some (.cells #[(3:Int),(),()] 97):=ag rfl
     have y:=Q.below (w':=(g.alloc (.cells #[(3:Int),(),()] 97))) ze;have A:=ab (w':=(g.alloc (.cells #[(3:Int),(),()] 97))) R ze;have B:Ch b.own w (g.alloc (.cells #[(3:Int),(),()] 97)):=T.trans (Ch.fresh ze);obtain⟨p,q⟩:=zx (g.alloc (.cells #[(3:Int),(),()] 97));rw[<-q] at y n A B⊢;obtain⟨a1,a2,a3⟩:=aW n)
  obtain⟨t,C,b9,U⟩: ∃t C,w1.heap.size<=t/\dY p t C O τ':=by
   first
    |exact⟨_,_,(ak w1.drew _).size,P.step (w':=p) (by rw[q];simp) (λk V a4=>by rw[q];exact aR _ _ _ (by simp at V;omega))⟩
    |exact⟨_,_,Nt _,P.below (w':=p) (by rw[q];exact ak _ _)⟩
  have D:=zh y;have L:=zh n;have h:=zh A;have a5:=zh B;clear q y n A B a;obtain⟨c1,c2,c3⟩:=aW h;have c4:=ad (o:=0) h;have c5:=ad (o:=1) h;have c6:=ad (o:=2) h;have c7:=aa h;have c8:b.s<w.heap.size:=aa H.blk;have l: ∀v v' k,k≠b.s->((p.setCell ⟨b.s,1,none⟩ v).setCell ⟨b.s,2,none⟩ v').heap[k]?=p.heap[k]?:=λv v' k c=>(af _ c).trans (af _ c)
  have a6:=zh l;have c9:=λv v'=>(aW ((l v v' _ (by have:=s.out;omega)).trans L)).1
  have d0:=λv v'=>(aW ((l v v' _ (by have:=s.out;omega)).trans L)).2.1
  have d1:=λv v'=>(aW ((l v v' _ (by have:=s.out;omega)).trans L)).2.2
  have d2:=λv v'=>(aW ((l v v' _ zo).trans h)).1
  have d3:=λv v'=>(aW ((l v v' _ zo).trans h)).2.1
  have d4:=λv v'=>(aW ((l v v' _ zo).trans h)).2.2
  have d5: ∀v v' o,((p.setCell ⟨b.s,1,none⟩ v).setCell ⟨b.s,2,none⟩ v').frozen? ⟨w.heap.size,o,none⟩=false:=λv v' o=>ad ((l v v' _ zo).trans h)
  obtain⟨d6,d7,d8⟩:=aW D.blk;have d9:=ad (o:=1) D.blk;have e0:=ad (o:=2) D.blk;have a7:=zh U;clear l U;go_wp2_with fail;refine NG (v:= .tuple #[.agg #[(3:Int),(),()],()]) (aJ results77 _ _ _ _ _ _ _ _ rfl rfl (bW _ _ _ ((a6 _ _ _ zo).trans h)) underlying97 rfl zk) rfl ⟨⟨b.s,t,C,O,0,0,0⟩,rfl,rfl,?_,λk c=>?_,aP (aP (aP (aP (aP a5 (.inl (.inl rfl))) (.inl (.inl rfl))) (.inr zl)) (.inr zl)) (.inr zl)⟩
  ·refine(D.cut a7 (λk V a4=>zo)).step zm λk c=>aR _ _ _ ?_
   rcases c with c|c|c
   ·have c:k=b.s:=c;omega
   ·have c:t<=k/\k<C:=c;omega
   ·exact absurd c.2 (Oy _)
  ·rcases c with c|c|c
   ·exact .inl (.inl c)
   ·exact .inr (by have c:t<=k/\k<C:=c;omega)
   ·exact absurd c.2 (Oy _)
 ·go_simp
  skip
  refine zE u (by first|exact⟨⟨J,E⟩,Nt _⟩|exact⟨⟨(d.cellk (No f a.2) m).trans a.1.1,(d.cellk (No f a.2) m).trans a.1.2⟩,Nq a.2 d.size⟩|exact⟨⟨ae a.1.1 ze,ae a.1.2 ze⟩,Nq a.2 ze.size⟩|exact⟨⟨ae F ze,ae I ze⟩,Nq s ze.size⟩|exact⟨⟨(bx _ _ _ (Oi f)).trans a.1.1,(bx _ _ _ (Oi f)).trans a.1.2⟩,by simpa using a.2⟩) λa=>?_
  refine zO 9 λN u=>?_
  go_simp;refine(b3 _ (by first|exact r.below zr.drew|exact r.below (ai zr.drew ze))).mono ?_;rintro e g ⟨O,rfl,P,Z,d⟩;have Q:=bJ.shadow (by first|exact r.below zr.drew|exact r.below (ai zr.drew ze)) a8 d Z;have R:=zh (show g.heap[w.heap.size]?=some (.cells #[(),(),()] 97) from d.keep (by first|exact M|exact ab M (ai zr.drew ze)) b1);have T:=zh (show Ch b.own w g from Ch.trans (Ch.fresh (by first|exact W.drew|exact ai W.drew ze)) (d.mono λk _ a0=>kX a0));have F:=zh (show g.cell? ⟨b.s,1,none⟩=some (.pointer (some ⟨b.t,0,none⟩)) from(d.cellk (No f a.2) m).trans a.1.1);have I:=zh (show g.cell? ⟨b.s,2,none⟩=some (.pointer (some ⟨b.c,0,none⟩)) from(d.cellk (No f a.2) m).trans a.1.2);have s:=zh (Nq a.2 d.size);(try simp only[CD.val]);refine zE u (by first|exact⟨⟨J,E⟩,Nt _⟩|exact⟨⟨(d.cellk (No f a.2) m).trans a.1.1,(d.cellk (No f a.2) m).trans a.1.2⟩,Nq a.2 d.size⟩|exact⟨⟨ae a.1.1 ze,ae a.1.2 ze⟩,Nq a.2 ze.size⟩|exact⟨⟨ae F ze,ae I ze⟩,Nq s ze.size⟩|exact⟨⟨(bx _ _ _ (Oi f)).trans a.1.1,(bx _ _ _ (Oi f)).trans a.1.2⟩,by simpa using a.2⟩) λa=>?_
  refine zU 10 ?_;refine zU 11 ?_;refine zU 12 ?_;refine zU 13 ?_;refine zO 15 λN u=>?_
  (try(have x:g.heap[w1.heap.size]?=some (.cells #[(),(),()] 97):=d.keep (ag (w:=w1.drew) rfl) (λe=>absurd (r.lt (kX e)) (OX _));obtain⟨z0,z1,z2⟩:=aW x;have b6:=ad (o:=0) x;have b7:=ad (o:=1) x;have b8:=ad (o:=2) x));go_simp
  refine zE u (by first|exact⟨⟨J,E⟩,Nt _⟩|exact⟨⟨(d.cellk (No f a.2) m).trans a.1.1,(d.cellk (No f a.2) m).trans a.1.2⟩,Nq a.2 d.size⟩|exact⟨⟨ae a.1.1 ze,ae a.1.2 ze⟩,Nq a.2 ze.size⟩|exact⟨⟨ae F ze,ae I ze⟩,Nq s ze.size⟩|exact⟨⟨(bx _ _ _ (Oi f)).trans a.1.1,(bx _ _ _ (Oi f)).trans a.1.2⟩,by simpa using a.2⟩) λa=>?_
  refine zU 16 ?_;refine zU 17 ?_;refine zH ?_;have K:w.heap.size<=w1.heap.size:=Oc b0
  first
   |(have n:(((g.setCell ⟨w1.heap.size,0,none⟩ (.int .i64 3)).setCell ⟨w1.heap.size,1,none⟩ (.int .i64 0)).setCell ⟨w1.heap.size,2,none⟩ (.int .i64 0)).heap[w1.heap.size]?=some (.cells #[(3:Int),(),()] 97):=bW _ _ _ x
     have y:=Q.step (w':=(((g.setCell ⟨w1.heap.size,0,none⟩ (.int .i64 3)).setCell ⟨w1.heap.size,1,none⟩ (.int .i64 0)).setCell ⟨w1.heap.size,2,none⟩ (.int .i64 0))) zm (λk c=>aR _ _ _ (λe=>by subst e;exact absurd (r.lt c) (OX _)));have A:=(aR (.int .i64 3) (.int .i64 0) (.int .i64 0) b2).trans R;have B:Ch b.own w (((g.setCell ⟨w1.heap.size,0,none⟩ (.int .i64 3)).setCell ⟨w1.heap.size,1,none⟩ (.int .i64 0)).setCell ⟨w1.heap.size,2,none⟩ (.int .i64 0)):=aP (aP (aP T (.inr K)) (.inr K)) (.inr K);obtain⟨p,q⟩:=zx (((g.setCell ⟨w1.heap.size,0,none⟩ (.int .i64 3)).setCell ⟨w1.heap.size,1,none⟩ (.int .i64 0)).setCell ⟨w1.heap.size,2,none⟩ (.int .i64 0));rw[<-q] at y n A B⊢;obtain⟨a1,a2,a3⟩:=aW n)
   |(have n:(g.alloc (.cells #[(3:Int),(),()] 97)).heap[g.heap.size]?=some (.cells #[(3:Int),(),()] 97):=ag rfl
     have y:=Q.below (w':=(g.alloc (.cells #[(3:Int),(),()] 97))) ze;have A:=ab (w':=(g.alloc (.cells #[(3:Int),(),()] 97))) R ze;have B:Ch b.own w (g.alloc (.cells #[(3:Int),(),()] 97)):=T.trans (Ch.fresh ze);obtain⟨p,q⟩:=zx (g.alloc (.cells #[(3:Int),(),()] 97));rw[<-q] at y n A B⊢;obtain⟨a1,a2,a3⟩:=aW n)
  obtain⟨t,C,b9,U⟩: ∃t C,w1.heap.size<=t/\dY p t C O τ':=by
   first
    |exact⟨_,_,(ak w1.drew _).size,P.step (w':=p) (by rw[q];simp) (λk V a4=>by rw[q];exact aR _ _ _ (by simp at V;omega))⟩
    |exact⟨_,_,Nt _,P.below (w':=p) (by rw[q];exact ak _ _)⟩
  have D:=zh y;have L:=zh n;have h:=zh A;have a5:=zh B;clear q y n A B a;obtain⟨c1,c2,c3⟩:=aW h;have c4:=ad (o:=0) h;have c5:=ad (o:=1) h;have c6:=ad (o:=2) h;have c7:=aa h;have c8:b.s<w.heap.size:=aa H.blk;have l: ∀v v' k,k≠b.s->((p.setCell ⟨b.s,1,none⟩ v).setCell ⟨b.s,2,none⟩ v').heap[k]?=p.heap[k]?:=λv v' k c=>(af _ c).trans (af _ c)
  have a6:=zh l;have c9:=λv v'=>(aW ((l v v' _ (by have:=s.out;omega)).trans L)).1
  have d0:=λv v'=>(aW ((l v v' _ (by have:=s.out;omega)).trans L)).2.1
  have d1:=λv v'=>(aW ((l v v' _ (by have:=s.out;omega)).trans L)).2.2
  have d2:=λv v'=>(aW ((l v v' _ zo).trans h)).1
  have d3:=λv v'=>(aW ((l v v' _ zo).trans h)).2.1
  have d4:=λv v'=>(aW ((l v v' _ zo).trans h)).2.2
  have d5: ∀v v' o,((p.setCell ⟨b.s,1,none⟩ v).setCell ⟨b.s,2,none⟩ v').frozen? ⟨w.heap.size,o,none⟩=false:=λv v' o=>ad ((l v v' _ zo).trans h)
  obtain⟨d6,d7,d8⟩:=aW D.blk;have d9:=ad (o:=1) D.blk;have e0:=ad (o:=2) D.blk;have a7:=zh U;clear l U;go_wp2_with fail;refine NG (v:= .tuple #[.agg #[(3:Int),(),()],()]) (aJ results77 _ _ _ _ _ _ _ _ rfl rfl (bW _ _ _ ((a6 _ _ _ zo).trans h)) underlying97 rfl zk) rfl ⟨⟨b.s,t,C,O,0,0,0⟩,rfl,rfl,?_,λk c=>?_,aP (aP (aP (aP (aP a5 (.inl (.inl rfl))) (.inl (.inl rfl))) (.inr zl)) (.inr zl)) (.inr zl)⟩
  ·refine(D.cut a7 (λk V a4=>zo)).step zm λk c=>aR _ _ _ ?_
   rcases c with c|c|c
   ·have c:k=b.s:=c;omega
   ·have c:t<=k/\k<C:=c;omega
   ·exact absurd c.2 (Oy _)
  ·rcases c with c|c|c
   ·exact .inl (.inl c)
   ·exact .inr (by have c:t<=k/\k<C:=c;omega)
   ·exact absurd c.2 (Oy _)
end
section
variable{w w' w1 u:Qm}{b:SB}{S:au}{B E s t:Nat}
def CO(v:Qn)(w:Qm):Qo zP 373 #[v,.pointer none] w (aK w (.int .i64 0)):=by
 go_enter func373,ntmps373;go_wp2;go_ret;exact⟨rfl,ND _ _⟩
def CP{τ:dJ}{L M O:Qn}{ps:List bF}(a:Int)(H:Qs (hY w B E t τ L M O ps))(o:Qs (0<=a/\a<=4096))(p:Qs (cD τ.r.name τ.r.l=true))(q:τ.r.fl.length<=5)(r:cz τ.tabs τ.tabs.length<=a):
 Qo zP 309 #[a,t,.pointer none] w (FI w ⟨a,τ,none⟩):=by
 have j:=zh q;have s:=zh r;have v:=(aN p);have x:=zh (show 0<τ.tabs.length/\τ.tabs.length<=5 by rw[H.len];omega);clear q r v;go_enter func309,ntmps309;go_wp2_with fail;refine zb (qT a w o) λw1 y=>?_
 go_wp2_with fail;refine zb (CO _ _) λP A=>?_
 have B2:=ai y A;go_wp2_with fail;refine(fU (H.below B2) (by have:=x.2;omega) (by have:=j.out;omega)).mono ?_;rintro e Q ⟨k,rfl,C,D⟩;have F:=ai B2 D;have I:=B2.size;go_wp2_with fail;refine zb (nI _) λf l=>?_
 have J:=ai F l;have K:=C.below l;go_wp2_with fail;obtain⟨R,g⟩:=zx (f.alloc (.cells #[a,k,.pointer none] 103));have hq:=qU (w:=w) (u:=f) (S:=⟨a,τ,none⟩) (bs:=0) (es:=0) (c:=0) J K I (λσ h=>by cases h) (λ_=>⟨rfl,rfl⟩) rfl g;rw[<-g];have d:=zh hq;clear hq g;refine zb (sT (b:=⟨f.heap.size,_,_,k,0,0,0⟩) d.1 ⟨p,j,o,λσ h=>by cases h⟩) λT m=>?_
 have n:(au.mk a τ none).need=cz τ.tabs τ.tabs.length:=by unfold au.need wb;simp
 rw[n];obtain⟨N,i⟩:=zx (cz τ.tabs τ.tabs.length);have U:decide (a<N)=false:=NQ (by rw[i];have:=s.out;omega);rw[<-i];clear i n;go_wp2;go_ret2;exact⟨_,rfl,d.1.below m,d.2.1,ai d.2.2 m⟩
end
section
variable{w w':Qm}{b:SB}{S:au}
def FL(H:Qs (bJ w b S))(D:S.ok)(Q:Qs (aQ S.τ.r.now))(n:ByteArray)(R:Qs (bn n=true))(T:Qs (n.size<=1000000))(f g:Int)(U:Qs (0<=f/\f<=g))(V:Qs (g<=9223372036854775807))(a:Nat)(W:Qs (S.τ.r.cover f=a))(X:Qs (a<S.τ.tabs.length))(Y:Qs (∀r∈S.τ.tabs.getD a none,r.name=n/\f<=r.start/\r.start<g)):
 Qo zP 237 #[b.s,n,f,g] w (qM w a (S.τ.tabs.getD a none).toList):=by
 obtain⟨h,p⟩:=zy (S.τ.tabs.getD a none);rw[<-p];have q:=zh (D.len H);clear D;go_enter func237,ntmps237;go_wp2_with fail;refine zb (eY (H.below ze)) λE F=>?_
 obtain⟨s,i⟩:=bl F;have t:=zh s;have x:=zh i;have j:=H.below i;clear s i;obtain⟨c0,I,J⟩:=aW j.blk;have K:=aa j.blk;obtain⟨Z,a0,a1,ps,y⟩:=j.tr;have L:=zh y;clear y;go_wp2_with fail;refine(CA L q.1 (by have:=q.2;omega) Q n R T f g U V a W X Y).mono ?_;rintro e M ⟨u,rfl,c,A,B⟩;have C:=zh (ui c A);have N:=A.mono x.size;have a2:w.heap.size<E.heap.size:=aa t;rw[<-p] at c C;have O:=ai x B;have d:=zh (ab t B);obtain⟨l,m,rfl,-⟩:=id c;clear c0 I J K;obtain⟨z0,z1⟩:=bE d;have a3:=ad (o:=0) d;have a4:=ad (o:=1) d;go_wp2_with fail
 have P:((M.setCell ⟨w.heap.size,0,none⟩ (.int .i64 a)).setCell ⟨w.heap.size,1,none⟩ (.slice l h.toList.length m)).heap[w.heap.size]?=some (.cells #[(a:Int),.slice l h.toList.length m] 247):=by
  rw[al (al d _) _];rfl
 refine NG (v:= .tuple #[.agg #[(a:Int),.slice l h.toList.length m],()]) (aJ results237 _ _ _ _ _ _ _ _ rfl rfl P underlying247 rfl zk) rfl ⟨_,rfl,?_,N,ao (ao O zl) zl⟩;exact ms c C zm λk a5 _=>(af _ (by show k≠w.heap.size;omega)).trans (af _ (by show k≠w.heap.size;omega))
end
section
variable{w w':Qm}{b:SB}{S:au}
def IC(H:Qs (bJ w b S))(g:S.ok)(u:Qs (aQ S.τ.r.now))(v:Qn)(x:ba)(i:Qs (aB 3 ba.cells w v [x]))
 (y:Qs (x.name.size<=9223372036854775807/\aQ x.time/\aQ x.value)) (q:Int) (a:S.τ.r.takes x.name x.time=q) (hq:q≠0):
 Qo zP 138 #[b.s,v] w (aK w (.int .i64 q)):=by
 have d:=zh (g.len H);have j:=zh (show S.τ.r.fl.length<=100 by have:=g.fl;omega);have k:=zh a;obtain⟨va,vc,rfl,-,-⟩:=id i;have l:=zh hq;clear g a;go_enter func138,ntmps138;go_wp2_with fail;refine zb (eY H) λA h=>?_
 have f:=H.below h;obtain⟨B,C,D,ps,a⟩:=f.tr;have m:=zh a;obtain⟨c0,n,o⟩:=aW f.blk;have E:=aa f.blk;clear a;go_wp2_with fail;refine(fU m (by have:=d.2;omega) j).mono ?_;rintro e F ⟨I,rfl,c,p⟩;have B2:=ai h p;obtain⟨J,K,L,M,c⟩:=c;have r:=zh c;clear c c0 n o;go_wp2_with fail;refine zb (Fz r d.1 (by have:=d.2;omega) u _ x (i.below B2) y q k l) λN s=>?_
 have t:=ai B2 s;go_wp2;go_ret;exact⟨rfl,t⟩
end
structure gm where
 low:Int
 n:Int
 used:List Int
def eI(_:Unit):Qn:= .agg #[]
structure cp(w:Qm)(p m:Nat)(V:gm):Prop where
 c0:w.cell? ⟨p,0,none⟩=some (.int .i64 V.low)
 c1:w.cell? ⟨p,1,none⟩=some (.int .i64 V.n)
 c2:w.cell? ⟨p,2,none⟩=some (.map (some m))
 mp:bL zP 3 gr eI w m (V.used.map λx=>(x,()))
section
variable{w w':Qm}{p m:Nat}{V:gm}
def cp.below(a:cp w p m V)(c:Qr w.heap.size w w'):cp w' p m V:=⟨ae a.c0 c,ae a.c1 c,ae a.c2 c,a.mp.below c⟩
def qV{l:List Int}{k:Int}:(bf (l.map λx=>(x,())) k).isSome=decide (k∈l):=by
 induction l with
 |nil=>simp[bf]
 |cons a l d=>
  simp only[Oq,bf];by_cases c:a=k
  ·simp[c]
  ·rw[NB c,d]
   simp[c,Ne.symm c]
def cp.look(c:cp w p m V)(k:Int)(d:aQ k):(Instr.lookup 323 (.map (some m)) (.int .i64 k) true).run zP w= .ok (.tuple #[.agg #[],.bool (decide (k∈V.used))]) w:=by
 have a:hC (.agg #[]) eI true (bf (V.used.map λx=>(x,())) k)= .tuple #[.agg #[],.bool (decide (k∈V.used))]:=by
  rw[<-qV];cases bf (V.used.map λx=>(x,())) k<;>rfl
 rw[<-a];exact c.mp.look eM eH underlying323 rfl true (gX (gn d))
def wg(a:cp w p m V)(k:Int)(f:aQ k):Qo zP 428 #[p,k] w (aK w (.bool (decide (k∈V.used)))):=by
 have c:=a;have d:=a.c2;have e:=Nv w _ d;dsimp only at e;have g:=c.look k f;clear a c;go_enter func428,ntmps428;go_wp2;go_ret;exact⟨rfl,ak _ _⟩
def sV(d:cp w p m V)(l:0<=V.n/\V.n<=4096)(s:V.used.length<=4096):Qo zP 427 #[p] w (aK w (.int .i64 (V.n-V.used.length))):=by
 have H:=zh d;obtain⟨c0,e,f,g⟩:=d;have h:=Nv w _ f;dsimp only at h;clear g;obtain⟨N,c⟩:=zx V.n;rw[<-c] at e l⊢;clear c;go_enter func427,ntmps427;go_wp2_with fail;refine zJ w 11 (zL [?_,?_,?_,?_,?_,?_,?_,?_,?_,?_,?_]) zq ?_;rotate_right
 iterate 8
  refine zV ?_
 refine aw zk rfl rfl ?_ ?_
 ·intro n a i o j;have q:=a.2;go_simp;have k:=(H.mp.below a.1).len underlying323 3;simp only[OC] at k;go_simp;exact j.out _ _ zz zr
 iterate 2
  refine zV ?_
 refine zD λr a i=>?_
 go_wp2;go_ret;exact⟨bp (by unfold IntKind.wrap;simp[IntKind.bits,IntKind.signed];omega),a.1⟩
def ID(w:Qm)(V:gm)(e:Qq)(w':Qm):Prop:= ∃p m,e= .returned (.pointer (some ⟨p,0,none⟩))/\Qs (cp w' p m V)/\(w.heap.size<=p/\w.heap.size<=m/\p≠m)/\Qs (Qr w.heap.size w w')
def FM(a n:Int)(w:Qm)(e:0<=a/\a<=4096)(f:0<=n/\n<=4096):Qo zP 253 #[a,n] w (ID w ⟨a,n,[]⟩):=by
 have g:= @run_makeMap zP;obtain⟨h,i⟩:=e;obtain⟨n0,n1⟩:=f;have j:max a 0=a:=zo;have k:min n 4096=n:=zo;go_enter func253,ntmps253;go_wp2_with fail;go_ret;have q:=ag (w:=w.alloc (.map #[] 0)) (o:= .cells #[a,n,.map (some w.heap.size)] 325) (b:=w.heap.size+1) zm;obtain⟨c0,c,d⟩:=aW q;refine⟨w.heap.size+1,w.heap.size,rfl,⟨c0,c,d,?_⟩,⟨zo,Nt _,zo⟩,ai ze ze⟩;exact(bL.new zP 3 gr eI w).below ze
end
def bT{F:Nat->Prop}{w w':Qm}(a:Ch F w w'){k o:Nat}(c:k<w.heap.size)(d: ¬F k):w'.cell? ⟨k,o,none⟩=w.cell? ⟨k,o,none⟩:=by
 simp[World.cell?,a.block k c d]
def gs(l:List Int)(k:Int):List Int:=if k∈l then l else l++ [k]
def sW{l:List Int}{k:Int}:cn (l.map λx=>(x,())) k ()=(gs l k).map λx=>(x,()):=by
 unfold gs
 induction l with
 |nil=>rfl
 |cons a l d=>
  simp only[Oq,cn];by_cases c:a=k
  ·subst c;simp
  ·rw[NB c,d]
   have e:(k∈a::l)=(k∈l):=by simp[Ne.symm c]
   simp only[e];split<;>simp
section
variable{w w':Qm}{p m:Nat}{V:gm}
def FN(w:Qm)(p m:Nat)(V:gm)(v:Qn)(e:Qq)(w':Qm):Prop:=e= .returned v/\Qs (cp w' p m V)/\Qs (Ch (·=m) w w')
def cp.ne(d:cp w p m V){k o:Nat}{v:Qn}(e:w.cell? ⟨k,o,none⟩=some v):k≠m:=by
 obtain⟨es,c,a,-⟩:=d.mp;rintro rfl;simp[World.cell?,a] at e
def cp.put{x:Int}(a:cp w p m V)(e:bL zP 3 gr eI w' m (cn (V.used.map λx=>(x,())) x ()))(h:Ch (·=m) w w'):cp w' p m {V with used:=gs V.used x}:=by
 have f:=a.ne a.c0;have d:=Nv w _ a.c0;dsimp only at d;have g:w'.heap[p]?=w.heap[p]?:=h.block p d f;have c: ∀o,w'.cell? ⟨p,o,none⟩=w.cell? ⟨p,o,none⟩:=λo=>by simp[World.cell?,g]
 rw[sW] at e;exact⟨(c 0).trans a.c0,(c 1).trans a.c1,(c 2).trans a.c2,e⟩
def FO{v:Qn}{l:List Int}(H:Qs (cp w p m V))(R:aE w v l):Qo zP 429 #[p,v] w (FN w p m {V with used:=l.foldl gs V.used} (.tuple #[])):=by
 obtain⟨a,c,rfl,r,s,t⟩:=R;have D:=zh r;have E:=zh t;have F:l.length<=c:=s.1;have I:=zh (zo:l.length<=9223372036854775807);clear r s t F;obtain⟨n,f⟩:=zy l.length;rw[<-f];have S:n<=9223372036854775807:=by rw[f];exact I
 go_enter func429,ntmps429;go_wp2_with fail;go_loopw [8] (λi wr=> ∃k:Nat,k<=n/\i= .int .i64 k/\Qs (cp wr p m {V with used:=(l.take k).foldl gs V.used})/\Qs (Ch (·=m) w wr)) (λi _=>n-(intOf i).toNat)
 case atStart=>exact⟨0,Nx _,rfl,zh (by simpa using H.out),(Ch.refl _ _)⟩
 case round=>
  obtain⟨k,T,rfl,g,h⟩:=hrel;by_cases u:k<n
  ·have d:k<l.length:=by rw[<-f];exact u
   obtain⟨b,o,rfl,x,y⟩:=E (λe=>by rw[e] at d;simp at d);have j:=y k d;have A:=H.ne j;have J:=(bT h x A).trans j;have U:b<_:=No x h.size;obtain⟨B,q⟩:=zy (l.getD k 0);rw[<-q] at J;have K:=zh (show aQ B by rw[q];unfold aQ;exact D _ (by simp[d]));have L:=g.c2;have M:=Nv _ _ L;dsimp only at M;clear y j A;go_wp2_with (refine dt rfl (.tmp 15) (.tmp 16) (.tmp 17) rfl g.mp eM eH underlying323 (gX (gn K)) () rfl rfl rfl ?_);intro N O C
   have P:=zh (show cp N p m {V with used:=(l.take (k+1)).foldl gs V.used} by
    have:=g.put O.out C.out;rw[NE d,OS,show l[k]=B by rw[q];simp[d]];exact this)
   have Q:=h.trans C.out;go_wp2;go_roundw
   case rel=>exact⟨k+1,u,by go_num,P,Q⟩
   case measure=>simp[intOf];omega
  ·obtain rfl:k=n:=zo
   go_wp2
   go_end0
   refine⟨rfl,?_,h⟩;have:=g.out;rw[NC (by rw[f];exact Nt _)] at this;exact this
end
def sX{l:List Int}{k:Int}:iH (l.map λx=>(x,())) k=(l.erase k).map λx=>(x,()):=by
 induction l with
 |nil=>rfl
 |cons a l d=>
  simp only[Oq,iH];by_cases c:a=k
  ·subst c;simp
  ·rw[NB c,d,List.erase_cons_tail (by simpa using c)]
   simp
def eJ:List Int->List Int->Int
 |_,[]=>0
 |u,x::l=>if x∈u then 1+eJ (u.erase x) l else eJ u l
def kd: ∀(u l:List Int),0<=eJ u l/\eJ u l<=l.length
 |_,[]=>by simp[eJ]
 |u,x::l=>by
  have a:=kd (u.erase x) l;have c:=kd u l;simp only[eJ,NW];split<;>omega
section
variable{w w':Qm}{p m:Nat}{V:gm}
def cp.del{x:Int}(a:cp w p m V)(e:bL zP 3 gr eI w' m (iH (V.used.map λx=>(x,())) x))(g:Ch (·=m) w w'):cp w' p m {V with used:=V.used.erase x}:=by
 have f:=a.ne a.c0;have d:=Nv w _ a.c0;dsimp only at d;have c: ∀o,w'.cell? ⟨p,o,none⟩=w.cell? ⟨p,o,none⟩:=λo=>bT g d f
 rw[sX] at e;exact⟨(c 0).trans a.c0,(c 1).trans a.c1,(c 2).trans a.c2,e⟩
def cp.ch{F:Nat->Prop}(a:cp w p m V)(e:Ch F w w')(f: ¬F p)(g: ¬F m):cp w' p m V:=by
 have d:=Nv w _ a.c0;dsimp only at d;have c: ∀o,w'.cell? ⟨p,o,none⟩=w.cell? ⟨p,o,none⟩:=λo=>bT e d f
 exact⟨(c 0).trans a.c0,(c 1).trans a.c1,(c 2).trans a.c2,a.mp.ch e g⟩
def fz(u:List Int)(l:List Int):List Int:=l.foldl List.erase u
def sY{v:Qn}{l:List Int}(H:Qs (cp w p m V))(a5:aE w v l)(a6:l.length<=5000):Qo zP 431 #[p,v] w (FN w p m {V with used:=fz V.used l} (.int .i64 (eJ V.used l))):=by
 obtain⟨a,c,rfl,F,R,I⟩:=a5;have S:=zh F;have T:=zh I;clear F R I;obtain⟨n,q⟩:=zy l.length;rw[<-q] at a6⊢;have U:=zh (kd V.used l);go_enter func431,ntmps431;go_wp2_with fail;go_loopw [10,5] (λi g wr=> ∃(k:Nat) (z:Int),k<=n/\i= .int .i64 k/\g= .int .i64 z/\Qs (0<=z/\z+eJ (fz V.used (l.take k)) (l.drop k)=eJ V.used l)/\Qs (cp wr p m {V with used:=fz V.used (l.take k)})/\Qs (Ch (·=m) w wr)) (λi _ _=>n-(intOf i).toNat)
 case atStart=>exact⟨0,0,Nx _,rfl,rfl,zh (by simp[fz]),zh (by simpa[fz] using H.out),(Ch.refl _ _)⟩
 case round=>
  obtain⟨k,z,a7,rfl,rfl,r,y,t⟩:=hrel;have W:=kd (fz V.used (l.take k)) (l.drop k);have a8:0<=z:=r.1;have a9:z<=5000:=by have:=r.2;have:=U.out;have:=q.out;omega
  clear W;by_cases A:k<n
  ·have d:k<l.length:=by rw[<-q];exact A
   obtain⟨b,o,rfl,J,K⟩:=T (λe=>by rw[e] at d;simp at d);have B:=K k d;have X:=(bT t J (H.ne B)).trans B;have b0:=No J t.size;obtain⟨f,s⟩:=zx (l.getD k 0);rw[<-s] at X;have L:=zh (show aQ f by rw[s];unfold aQ;exact S _ (by simp[d]));have M:=zh (show l.drop k=f::l.drop (k+1) by rw[Oo d,s];simp[d])
   have u:=zh (show fz V.used (l.take (k+1))=(fz V.used (l.take k)).erase f by
    unfold fz;rw[NE d,OS,show l[k]=f by rw[s];simp[d]];rfl)
   clear K B s;go_wp2_with fail;refine zb (wg y f L) λY N=>?_
   have x:=y.below N;have O:=t.trans (Ch.fresh N);have Z:=x.c2;have a0:=Nv _ _ Z;dsimp only at a0;by_cases h:f∈fz V.used (l.take k)
   ·rw[show(decide (f∈({V with used:=fz V.used (l.take k)}:gm).used))=true from NV h]
    have C:=zh h;clear h;go_wp2_with (refine jL rfl (.tmp 20) (.tmp 21) rfl x.mp eM eH underlying323 (gX (gn L)) rfl rfl ?_);intro a1 a2 P;have D:=zh (show cp a1 p m {V with used:=fz V.used (l.take (k+1))} by rw[u];exact x.del a2.out P.out);have a3:=O.trans P.out
    have E:Qs (0<=z+1/\z+1+eJ (fz V.used (l.take (k+1))) (l.drop (k+1))=eJ V.used l):=zh (by
     have j:=r.2;rw[M] at j;simp only[eJ] at j;rw[NH C.out,<-u] at j;omega)
    go_wp2;go_roundw
    case rel=>exact⟨k+1,z+1,A,by go_num,by go_num,E,D,a3⟩
    case measure=>simp[intOf];omega
   ·rw[show(decide (f∈({V with used:=fz V.used (l.take k)}:gm).used))=false from NQ h]
    have Q:=zh (List.erase_of_not_mem h);have C:=zh h;clear h;have D:=zh (show cp Y p m {V with used:=fz V.used (l.take (k+1))} by rw[u,Q];exact x)
    have E:Qs (0<=z/\z+eJ (fz V.used (l.take (k+1))) (l.drop (k+1))=eJ V.used l):=zh (by
     have j:=r.2;rw[M] at j;simp only[eJ] at j;rw[NB C.out,<-Q,<-u] at j;omega)
    go_wp2;go_roundw
    case rel=>exact⟨k+1,z,A,by go_num,by go_num,E,D,O⟩
    case measure=>simp[intOf];omega
  ·obtain rfl:k=n:=zo
   have a4:=zh (show z=eJ V.used l by
    have:=r.2;rw[OQ (by rw[q];exact Nt _)] at this;simp only[eJ] at this;omega)
   go_wp2;go_ret;refine⟨bp a4,?_,t⟩;have:=y.out;rw[NC (by rw[q];exact Nt _)] at this;exact this
end
def cb(V:gm)(j:Nat):List Int:=((List.range j).map λi:Nat=>V.low+(i:Int)).filter λx=> !decide (x∈V.used)
def qW(V:gm)(j:Nat):cb V (j+1)=if V.low+(j:Int)∈V.used then cb V j else cb V j++ [V.low+(j:Int)]:=by
 unfold cb;rw[PB,NU,List.filter_append];by_cases a:V.low+(j:Int)∈V.used
 ·simp[a]
 ·simp[a]
def yB(V:gm){j n:Nat}(f:j<=n):(cb V n).take (cb V j).length=cb V j:=by
 induction n with
 |zero=>obtain rfl:j=0:=by omega
        simp
 |succ n c=>
  by_cases d:j=n+1
  ·subst d;simp
  ·have a:=c zo
   have e:(cb V j).length<=(cb V n).length:=by
    have:=Of List.length a;rw[NP] at this;omega
   rw[qW];split
   ·exact a
   ·rw[OP e];exact a
def nK(V:gm)(j:Nat): ∀x∈cb V j,V.low<=x/\x<V.low+j/\x∉V.used:=by
 intro x a;simp only[cb,List.mem_filter,OI,OT] at a;obtain⟨⟨i,d,rfl⟩,c⟩:=a;simp at c;exact⟨zo,zo,c⟩
section
variable{w w':Qm}{p m:Nat}{V:gm}
def IE(w:Qm)(p m:Nat)(V:gm)(l:List Int)(e:Qq)(w':Qm):Prop:=
 ∃v,e= .returned (.tuple #[v,()])/\Qs (cp w' p m {V with used:=l.foldl gs V.used})/\Qs (w'.ownsRow w.heap.size 3 1 v l.length (l.flatMap dK))/\Qs (Ch (·=m) w w')
def CQ(H:Qs (cp w p m V))(k:Nat)(b6:Qs (0<=V.n/\V.n<=4096))(b7:0<=V.low/\V.low<=4096)(b8:Qs (V.used.length<=4096))(b9:(k:Int)<=V.n-V.used.length)(N:Nat)(d3:N<=4096)(U:Qs (k<=(cb V N).length)):
 Qo zP 402 #[p,(k:Int)] w (IE w p m V ((cb V N).take k)):=by
 obtain⟨W,X,Y,Z,a0⟩:=info_parts gi;have C:=H.c0;obtain⟨A,s⟩:=zy V.low;obtain⟨a1,a2⟩:=b7;rw[<-s] at a1 a2 C;have c1:=zi (V.n-(V.used.length:Int)<(k:Int));have c2:=zi ((k:Int)<0);clear b9;go_enter func402,ntmps402;go_wp2_with fail;refine zb (sV H b6 b8) λc3 a3=>?_
 go_wp2_with fail;go_loopw [6,7] (λv i wr=> ∃(j:Nat) (c:Nat) (a:Option Addr),j<=N/\(cb V j).length<=k/\i= .int .i64 j/\v= .slice a (cb V j).length c/\Qs (wr.ownsRow w.heap.size 3 1 v (cb V j).length ((cb V j).flatMap dK))/\Qs (Qr w.heap.size w wr)) (λ_ i _=>N-(intOf i).toNat)
 case atStart=>exact⟨0,0,none,Nx _,Nx _,rfl,rfl,zh zw,a3⟩
 case round=>
  obtain⟨j,c,a,a4,I,rfl,rfl,t,o⟩:=hrel;have u:=H.below o;have c0:=ae C o;have D:=Nv _ _ c0;dsimp only at D;have c4:j<=4096:=zo;by_cases J:(cb V j).length<k
  ·have K:j<N:=by
    have:=U.out;rcases Qa j N with L|L
    ·exact L
    ·obtain rfl:j=N:=zo
     omega
   have a5:=zh (show aQ (A+(j:Int)) by unfold aQ;omega);go_wp2_with fail;refine zb (wg u (A+(j:Int)) a5) λc5 E=>?_
   have c6:=u.below E;have F:=aS t E;have r:=ai o E;have M:=zh (qW V j);have c0:=ae C r;have D:=Nv _ _ c0;dsimp only at D;by_cases g:A+(j:Int)∈V.used
   ·rw[show decide (A+(j:Int)∈V.used)=true from NV g]
    have f:=M.out;rw[<-s,NH g] at f;have h:=zh f;clear f g;go_wp2;go_roundw
    case rel=>exact⟨j+1,c,a,K,by rw[h];exact I,by go_num,by rw[h],by rw[h];exact F,r⟩
    case measure=>simp[intOf];omega
   ·rw[show decide (A+(j:Int)∈V.used)=false from NQ g]
    have f:=M.out;rw[<-s,NB g] at f;have h:=zh f;clear f g
    have c7:(cb V j).length<4096:=by
     have:=U.out;have c8:(cb V N).length<=N:=by unfold cb;exact Nq (List.length_filter_le _ _) zm
     omega
    go_wp2_with (at_builtin;refine ci (enc:=dK) rfl _ _ 44 rfl w.heap.size 3 W _ 8 underlying44 X Y Z a0 rfl zd _ _ (cb V j).length _ [A+(j:Int)] rfl (F.alloc _) rfl (bC 1 (c:=1) (l:= [A+(j:Int)]) (ag rfl) rfl ⟨Nt 1,zd⟩) (λ_=>rfl) ?qc1 ?qc2 zd ?qc3 ?_)
    case qc1=>intro x y O;simp only[dK,NL,NJ,Ou] at O;subst O;rfl
    case qc2=>show((cb V j).length+1)*8<140737488355328;omega
    case qc3=>have:=r.size;simp;omega
    intro a6 w7 n P;have c9:=r.size;have a7:=zh ((r.alloc zo (.cells #[(A+(j:Int):Int)] 3)).grown P zu (λq hq=>(ar F hq).1));have a8:=zh (show w7.ownsRow w.heap.size 3 1 a6 (cb V (j+1)).length ((cb V (j+1)).flatMap dK) by rw[h,NK,Nw];exact n);obtain⟨a9,b0,rfl⟩:=az n;have Q:=zh (show(cb V (j+1)).length=(cb V j).length+1 by rw[h];simp);clear n P;go_wp2;go_roundw
    case rel=>exact⟨j+1,b0,a9,K,by rw[Q];exact J,by go_num,by rw[Q],a8,a7⟩
    case measure=>simp[intOf];omega
  ·have d:=zh (zo:(cb V j).length=k)
   have B:=zh (show(cb V N).take k=cb V j by rw[<-d];exact yB V a4);have n:=t.out;have R:=zh (show aE wr (.slice a (cb V j).length c) (cb V j) from ei n (λx b1=>by have:=nK V j x b1;rw[<-s] at this;omega));rw[d] at J I⊢;rw[d] at R;clear n;by_cases d0:0<k
   ·go_wp2_with fail
    refine(FO u R).mono ?_;rintro e b2 ⟨rfl,b3,S⟩;have d1:=H.mp.lt;have T:=fo t S (λb d2 e=>by have e:b=m:=e;omega);have b4:=zh (show b2.ownsRow w.heap.size 3 1 _ (cb V j).length ((cb V j).flatMap dK) from T);clear T;go_wp2;go_ret2;refine⟨_,rfl,by rw[B];exact b3,?_,(Ch.fresh o).trans S⟩;have:=b4.out;rw[d] at this;rw[B,d];exact this
   ·obtain rfl:k=0:=zo
    have b5:cb V j= []:=NI d;go_wp2;go_ret2;refine⟨_,rfl,by rw[B,b5];exact u,?_,Ch.fresh o⟩;have:=t.out;rw[d] at this;rw[B,d];exact this
end
def dB:Maps.Keyed zP 9:=Maps.string_keyed underlying9
def mB(s:ByteArray):Qn:= .string s
def cT(x y:ByteArray)(a:mB x=mB y):x=y:=by injection a
def mC{s:ByteArray}(c:s.size<=15): ∃q,keyOf zP 9 (mB s)=some q:=by
 have a:s.size<=maxLen:=by unfold maxLen;omega
 refine⟨.string s.data.toList,?_⟩;simp[keyOf,mB,underlying9,mapKey,a]
def yC(b:Nat):Qn:= .pointer (some ⟨b,0,none⟩)
section
variable{κ α β:Type}[DecidableEq κ]
def iP(f:α->β): ∀(l:List (κ×α)) (k:κ),bf (l.map λx=>(x.1,f x.2)) k=(bf l k).map f
 | [],_=>rfl
 |x::l,k=>by
  simp only[Oq,bf];split
  ·rfl
  ·exact iP f l k
def ke(f:α->β)(v:α): ∀(l:List (κ×α)) (k:κ),cn (l.map λx=>(x.1,f x.2)) k (f v)=(cn l k v).map λx=>(x.1,f x.2)
 | [],_=>rfl
 |x::l,k=>by
  simp only[Oq,cn];split
  ·rfl
  ·rw[Oq,ke f v l k]
def qX(f:α->β): ∀(l:List (κ×α)) (k:κ),iH (l.map λx=>(x.1,f x.2)) k=(iH l k).map λx=>(x.1,f x.2)
 | [],_=>rfl
 |x::l,k=>by
  simp only[Oq,iH];split
  ·rfl
  ·rw[Oq,qX f l k]
def nL: ∀{l:List (κ×α)} {k:κ} {v:α},bf l k=some v->cn l k v=l
 | [],_,_,a=>by cases a
 |x::l,k,v,a=>by
  simp only[bf] at a;simp only[cn];split at a
  ·rename_i e
   rw[NH e];obtain rfl:=Oa a;rw[<-e]
  ·rename_i e
   rw[NB e,nL a]
def cy: ∀{l:List (κ×α)} {k:κ} {v:α},bf l k=some v->(k,v)∈l
 | [],_,_,a=>by cases a
 |x::l,k,v,a=>by
  simp only[bf] at a;split at a
  ·rename_i e
   obtain rfl:=Oa a;rw[<-e];exact OR ..
  ·exact Oj _ (cy a)
def mD: ∀{l:List (κ×α)} {k:κ} {v:α} {x:κ×α},(l.map (·.1)).Nodup->x∈cn l k v->x=(k,v)\/(x∈l/\x.1≠k)
 | [],k,v,x,_,a=> .inl (by simpa[cn] using a)
 |y::l,k,v,x,c,a=>by
  rw[Oq,PX] at c;simp only[cn] at a;split at a
  ·rename_i e
   rcases NL.1 a with rfl|a
   ·exact .inl rfl
   ·exact .inr ⟨Oj _ a,λd=>c.1 (by rw[e,<-d];exact OI.2 ⟨x,a,rfl⟩)⟩
  ·rename_i e
   rcases NL.1 a with rfl|a
   ·exact .inr ⟨OR ..,e⟩
   ·rcases mD c.2 a with a|⟨f,g⟩
    ·exact .inl a
    ·exact .inr ⟨Oj _ f,g⟩
def iQ: ∀{l:List (κ×α)} {k:κ} {x:κ×α},x∈iH l k->x∈l
 | [],_,_,a=>by cases a
 |y::l,k,x,a=>by
  simp only[iH] at a;split at a
  ·exact Oj _ a
  ·rcases NL.1 a with rfl|a
   ·exact OR ..
   ·exact Oj _ (iQ a)
end
structure fW where
 b:Nat
 m:Nat
 left:Int
 held:List Int
structure ce(w:Qm)(x:fW):Prop where
 blk:w.heap[x.b]?=some (.cells #[.int .i64 x.left,.map (some x.m)] 477)
 mp:bL zP 3 gr eI w x.m (x.held.map λk=>(k,()))
structure dn where
 pm:Nat
 lm:Nat
 P:gm
 A:List (ByteArray×fW)
abbrev LP:=gm×List (ByteArray×(Int×List Int))
def fW.pure(x:fW):Int×List Int:=(x.left,x.held)
def dn.pure(V:dn):LP:=(V.P,V.A.map λx=>(x.1,x.2.pure))
structure cq(w:Qm)(l:Nat)(V:dn):Prop where
 pool:cp w l V.pm V.P
 c3:w.cell? ⟨l,3,none⟩=some (.map (some V.lm))
 mp:bL zP 9 mB yC w V.lm (V.A.map λx=>(x.1,x.2.b))
 ac: ∀x∈V.A,ce w x.2
 ml:V.pm≠V.lm
 d: ∀x∈V.A,x.2.b≠l/\x.2.m≠V.pm/\x.2.m≠V.lm
 dd: ∀x∈V.A,∀y∈V.A,x.1≠y.1->x.2.b≠y.2.b/\x.2.m≠y.2.m
def dn.own(V:dn)(l k:Nat):Prop:=k=l\/k=V.pm\/k=V.lm\/ ∃x∈V.A,k=x.2.b\/k=x.2.m
def bL.ne{P:Program}{d:Qp}{κ α:Type}{e:κ->Qn}{ev:α->Qn}{w:Qm}{m:Nat}{l:List (κ×α)}(f:bL P d e ev w m l){k o:Nat}{v:Qn}(g:w.cell? ⟨k,o,none⟩=some v):k≠m:=by
 obtain⟨es,c,a,-⟩:=f;rintro rfl;simp[World.cell?,a] at g
def bL.nodup{P:Program}{d:Qp}{κ α:Type}{e:κ->Qn}{ev:α->Qn}{w:Qm}{m:Nat}{l:List (κ×α)}(a:bL P d e ev w m l):(l.map (·.1)).Nodup:=by
 obtain⟨es,c,-,a⟩:=a;exact a.nodup
section
variable{w w' w1:Qm}{l:Nat}{V V' V1:dn}{x x':fW}{F:Nat->Prop}{s:ByteArray}
def ce.step(a:ce w x)(c:w'.heap[x.b]?=w.heap[x.b]?)(d:w'.heap[x.m]?=w.heap[x.m]?):ce w' x:=⟨c.trans a.blk,a.mp.step d⟩
def ce.c0(a:ce w x):w.cell? ⟨x.b,0,none⟩=some (.int .i64 x.left):=(bE a.blk).1
def ce.lt(a:ce w x):x.b<w.heap.size/\x.m<w.heap.size:=⟨aa a.blk,a.mp.lt⟩
def ce.below(a:ce w x)(c:Qr w.heap.size w w'):ce w' x:=a.step (c.block _ a.lt.1) (c.block _ a.lt.2)
def ce.ch(a:ce w x)(c:Ch F w w')(d: ¬F x.b)(e: ¬F x.m):ce w' x:=a.step (c.block _ a.lt.1 d) (c.block _ a.lt.2 e)
def cq.lt(a:cq w l V): ∀k,V.own l k->k<w.heap.size:=by
 rintro k (rfl|rfl|rfl|⟨x,c,rfl|rfl⟩)
 ·exact Nv w _ a.pool.c0
 ·exact a.pool.mp.lt
 ·exact a.mp.lt
 ·exact(a.ac x c).lt.1
 ·exact(a.ac x c).lt.2
def cq.step(a:cq w l V)(c: ∀k,V.own l k->w'.heap[k]?=w.heap[k]?):cq w' l V:=by
 have f:=c l (.inl rfl);have d: ∀o,w'.cell? ⟨l,o,none⟩=w.cell? ⟨l,o,none⟩:=λo=>by simp[World.cell?,f]
 exact⟨⟨(d 0).trans a.pool.c0,(d 1).trans a.pool.c1,(d 2).trans a.pool.c2,a.pool.mp.step (c _ (.inr (.inl rfl)))⟩,(d 3).trans a.c3,a.mp.step (c _ (.inr (.inr (.inl rfl)))),
  λx e=>(a.ac x e).step (c _ (.inr (.inr (.inr ⟨x,e,.inl rfl⟩)))) (c _ (.inr (.inr (.inr ⟨x,e,.inr rfl⟩)))),a.ml,a.d,a.dd⟩
def cq.below(a:cq w l V)(d:Qr w.heap.size w w'):cq w' l V:=a.step λk c=>d.block k (a.lt k c)
def cq.nodup(a:cq w l V):(V.A.map (·.1)).Nodup:=by
 have:=a.mp.nodup
 rwa [Py] at this
structure fA(w:Qm)(l:Nat)(V:dn)(w':Qm)(V':dn):Prop where
 at_:cq w' l V'
 own: ∀k,V'.own l k->V.own l k\/w.heap.size<=k
 ch:Ch (V.own l) w w'
def fA.refl(a:cq w l V)(c:Qr w.heap.size w w'):fA w l V w' V:=⟨a.below c,λ_ a=> .inl a,Ch.fresh c⟩
def fA.trans(a:fA w l V w1 V1)(c:fA w1 l V1 w' V'):fA w l V w' V':=by
 refine⟨c.at_,λk e=>?_,?_⟩
 ·rcases c.own k e with d|d
  ·exact a.own k d
  ·exact .inr (Nq a.ch.size d)
 ·exact⟨c.ch.os.trans a.ch.os,c.ch.tape.trans a.ch.tape,c.ch.output.trans a.ch.output,Nq a.ch.size c.ch.size,λk e f=>(c.ch.block k (No e a.ch.size) λd=>by
   rcases a.own k d with g|g
   ·exact f g
   ·omega).trans (a.ch.block k e f)⟩
def fA.later(a:fA w1 l V w' V')(c:Qr w.heap.size w w1):fA w l V w' V':=⟨a.at_,λk d=>(a.own k d).imp id λa=>Nq c.size a,(Ch.fresh c).trans a.ch⟩
def cq.upd(c:cq w l V)(r:bf V.A s=some x)(m:x'.b=x.b)(p:x'.m=x.m)(n:Ch (λk=>k=x.b\/k=x.m) w w')(D:ce w' x'):fA w l V w' {V with A:=cn V.A s x'}:=by
 have f:=cy r;have j:=c.ac _ f;have o:=c.d _ f;have t:=c.nodup;have u:=Nv w _ c.pool.c0;have n1: ¬(l=x.b\/l=x.m):=λe=>e.elim (λe=>o.1 e.symm) λe=>j.mp.ne c.pool.c0 e
 have n2: ¬(V.pm=x.b\/V.pm=x.m):=λe=>e.elim (λe=>c.pool.mp.ne j.c0 e.symm) λe=>o.2.1 e.symm
 have v: ¬(V.lm=x.b\/V.lm=x.m):=λe=>e.elim (λe=>c.mp.ne j.c0 e.symm) λe=>o.2.2 e.symm
 have h: ∀y∈cn V.A s x',(y=(s,x'))\/(y∈V.A/\y.1≠s):=λy a=>mD t a
 have B:(cn V.A s x').map (λx=>(x.1,x.2.b))=V.A.map (λx=>(x.1,x.2.b)):=by
  rw[<-ke (λx:fW=>x.b),nL];rw[iP,r,m];rfl
 refine⟨⟨c.pool.ch n n1 n2,(bT n u n1).trans c.c3,by rw[B];exact c.mp.ch n v,λy a=>?_,c.ml,λy a=>?_,λy a z i g=>?_⟩,λk d=> .inl ?_,n.mono λk _ d=> .inr (.inr (.inr ⟨_,f,d⟩))⟩
 ·rcases h y a with rfl|⟨a,g⟩
  ·exact D
  ·have q:=c.dd y a _ f g
   exact(c.ac y a).ch n (λe=>e.elim q.1 λe=>j.mp.ne (c.ac y a).c0 e) (λe=>e.elim (λe=>(c.ac y a).mp.ne j.c0 e.symm) q.2)
 ·rcases h y a with rfl|⟨a,g⟩
  ·show x'.b≠l/\x'.m≠V.pm/\x'.m≠V.lm
   rw[m,p];exact o
  ·exact c.d y a
 ·rcases h y a with rfl|⟨a,E⟩
  ·rcases h z i with rfl|⟨i,C⟩
   ·exact absurd rfl g
   ·have:=c.dd _ f z i g
    show x'.b≠z.2.b/\x'.m≠z.2.m;rw[m,p];exact this
  ·rcases h z i with rfl|⟨i,C⟩
   ·have:=c.dd y a _ f g
    show y.2.b≠x'.b/\y.2.m≠x'.m;rw[m,p];exact this
   ·exact c.dd y a z i g
 ·rcases d with d|d|d|⟨y,a,d⟩
  ·exact .inl d
  ·exact .inr (.inl d)
  ·exact .inr (.inr (.inl d))
  ·rcases h y a with rfl|⟨a,-⟩
   ·refine .inr (.inr (.inr ⟨_,f,?_⟩))
    show k=x.b\/k=x.m;rw[<-m,<-p];exact d
   ·exact .inr (.inr (.inr ⟨y,a,d⟩))
def cq.open_(c:cq w l V)(u:bf V.A s=none)(h:Ch (·=V.lm) w w')(o:ce w' x)(v:w.heap.size<=x.b/\w.heap.size<=x.m)(p:bL zP 9 mB yC w' V.lm (cn (V.A.map λx=>(x.1,x.2.b)) s x.b)):
 fA w l V w' {V with A:=cn V.A s x}:=by
 have j:=c.nodup;have i:=c.lt;have m:=i l (.inl rfl);have n1:l≠V.lm:=c.mp.ne c.pool.c0;have e: ∀y∈cn V.A s x,(y=(s,x))\/(y∈V.A/\y.1≠s):=λy a=>mD j a
 have q:=i V.pm (.inr (.inl rfl));have r:=i V.lm (.inr (.inr (.inl rfl)));refine⟨⟨c.pool.ch h n1 c.ml,(bT h m n1).trans c.c3,by rw[<-ke (λx:fW=>x.b)];exact p,λy a=>?_,c.ml,λy a=>?_,λy a z f g=>?_⟩,λk d=>?_,h.mono λk _ d=> .inr (.inr (.inl d))⟩
 ·rcases e y a with rfl|⟨a,g⟩
  ·exact o
  ·exact(c.ac y a).ch h (c.mp.ne (c.ac y a).c0) (c.d y a).2.2
 ·rcases e y a with rfl|⟨a,g⟩
  ·show x.b≠l/\x.m≠V.pm/\x.m≠V.lm
   omega
  ·exact c.d y a
 ·rcases e y a with rfl|⟨a,t⟩
  ·rcases e z f with rfl|⟨f,n⟩
   ·exact absurd rfl g
   ·have:=(c.ac z f).lt
    show x.b≠z.2.b/\x.m≠z.2.m;omega
  ·rcases e z f with rfl|⟨f,n⟩
   ·have:=(c.ac y a).lt
    show y.2.b≠x.b/\y.2.m≠x.m;omega
   ·exact c.dd y a z f g
 ·rcases d with d|d|d|⟨y,a,d⟩
  ·exact .inl (.inl d)
  ·exact .inl (.inr (.inl d))
  ·exact .inl (.inr (.inr (.inl d)))
  ·rcases e y a with rfl|⟨a,-⟩
   ·right
    have d:k=x.b\/k=x.m:=d;omega
   ·exact .inl (.inr (.inr (.inr ⟨y,a,d⟩)))
def cq.pool'{P:gm}(a:cq w l V)(h:cp w' l V.pm P)(c:Ch (·=V.pm) w w'):fA w l V w' {V with P:=P}:=by
 have g:=a.lt l (.inl rfl);have n1:l≠V.pm:=a.pool.mp.ne a.pool.c0;exact⟨⟨h,(bT c g n1).trans a.c3,a.mp.ch c (λe=>a.ml e.symm),λy d=>(a.ac y d).ch c (a.pool.mp.ne (a.ac y d).c0) (a.d y d).2.1,a.ml,a.d,a.dd⟩,λk f=> .inl f,c.mono λk _ f=> .inr (.inl f)⟩
def cq.shut(a:cq w l V)(e:Ch (·=V.lm) w w')(i:bL zP 9 mB yC w' V.lm (iH (V.A.map λx=>(x.1,x.2.b)) s)):fA w l V w' {V with A:=iH V.A s}:=by
 have f:=a.lt l (.inl rfl);have n1:l≠V.lm:=a.mp.ne a.pool.c0;refine⟨⟨a.pool.ch e n1 a.ml,(bT e f n1).trans a.c3,by rw[<-qX (λx:fW=>x.b)];exact i,λy c=>?_,a.ml,λy c=>a.d y (iQ c),λy c z g h=>a.dd y (iQ c) z (iQ g) h⟩,λk d=> .inl ?_,e.mono λk _ d=> .inr (.inr (.inl d))⟩
 ·have c:=iQ c
  exact(a.ac y c).ch e (a.mp.ne (a.ac y c).c0) (a.d y c).2.2
 ·rcases d with d|d|d|⟨y,c,d⟩
  ·exact .inl d
  ·exact .inr (.inl d)
  ·exact .inr (.inr (.inl d))
  ·exact .inr (.inr (.inr ⟨y,iQ c,d⟩))
def qY(s:ByteArray)(w:Qm)(a:1<=s.size/\s.size<=15):Qo zP 397 #[s] w (aK w (.bool true)):=by
 obtain⟨c,d⟩:=a;have e:=zc ((1:Int)<=(s.size:Int));have f:=zc ((s.size:Int)<=15);go_enter func397,ntmps397;go_wp2_with fail;go_ret;exact⟨rfl,ND _ _⟩
def kA(a:cq w l V):Qo zP 398 #[l] w (aK w (.bool false)):=by
 have c:=a.c3;have d:=Nv w _ c;dsimp only at d;clear a;have hq:=λw=>run_eql_map_nil_sl (P:=zP) w 328 _ _ (some V.lm) underlying328
 go_enter func398,ntmps398;go_wp2;go_ret;exact⟨rfl,ND _ _⟩
def kY:Option fW->Qn
 |none=> .pointer none
 |some x=> .pointer (some ⟨x.b,0,none⟩)
def cq.look(a:cq w l V)(s:ByteArray)(c:s.size<=15):(Instr.lookup 328 (.map (some V.lm)) (.string s) false).run zP w= .ok (kY (bf V.A s)) w:=by
 obtain⟨q,hq⟩:=mC c;have:=a.mp.look dB cT underlying328 (z:= .pointer none) rfl false hq;rw[iP] at this;rw[show kY (bf V.A s)=hC (.pointer none) yC false ((bf V.A s).map (λx:fW=>x.b)) by cases bf V.A s<;>rfl];exact this
def kB(H:Qs (cq w l V))(s:ByteArray)(f:s.size<=15):Qo zP 401 #[l,s] w (aK w (kY (bf V.A s))):=by
 go_enter func401,ntmps401;go_wp2_with fail;refine zb (kA H) λw1 c=>?_
 have a:=H.below c;have g:=a.look s f;have d:=a.c3;have e:=Nv _ _ d;dsimp only at e;clear a;go_wp2;go_ret;exact⟨rfl,c⟩
end
section
open Go.MapKept Go.ChangeMaps
def kC{a c:Type}[DecidableEq a]: ∀(l:List (a×c)) (k:a) (u v:c),cn (cn l k u) k v=cn l k v
 | [],k,u,v=>by simp[cn]
 |x::l,k,u,v=>by
  simp only[cn];split
  ·rename_i e;simp[cn]
  ·rename_i e;simp[cn,e,kC l k u v]
def eT{a c:Type}[DecidableEq a]: ∀(l:List (a×c)) (k:a) (v:c),bf (cn l k v) k=some v
 | [],k,v=>by simp[cn,bf]
 |x::l,k,v=>by
  simp only[cn];split
  ·simp[bf]
  ·rename_i e;simp[bf,e,eT l k v]
def sZ{c:Type}(f:c->Int): ∀{l:List c} {i:Nat} {x:c},l[i]?=some x->(l.map f).sum=f x+((l.eraseIdx i).map f).sum
 | [],i,x,a=>by simp at a
 |y::l,0,x,a=>by simp at a;subst a;simp
 |y::l,i+1,x,a=>by
  have d:l[i]?=some x:=by simpa using a
  have:=sZ f d;simp only[List.eraseIdx_cons_succ,Oq,List.sum_cons];omega
def yD{c:Type}(f:c->Int)(B:Int): ∀(l:List c),(∀x∈l,0<=f x/\f x<=B)->0<=(l.map f).sum/\(l.map f).sum<=l.length*B
 | [],_=>zm
 |y::l,a=>by
  have g:=a y zm;have h:=yD f B l (λx d=>a x (by simp[d]));have e:((y::l).length:Int)*B=l.length*B+B:=by rw[NW];push_cast;rw[Int.add_mul,Int.one_mul]
  simp only[Oq,List.sum_cons,e];omega
def ut(w:Qm)(r b:Nat):Nat:=match w.heap[r]?,w.heap[b]? with
 |some (.mapIter _ _ a _),some (.map es _)=>(leftOf es a).size
 |_,_=>0
def xA.len{P:Program}{g:Qp}{a c:Type}{h:a->Qn}{ev:c->Qn}{w:Qm}{r b:Nat}{l left:List (a×c)}(i:xA P g h ev w r b l left):ut w r b=left.length:=by
 obtain⟨es,j,k,m,c0,d,e,-,-,-,f⟩:=i;unfold ut;rw[d,e];have:=Of List.length f;simpa using this
def Lq:Int×List Int:=(0,[])
def dk(A:List (ByteArray×(Int×List Int)))(s:ByteArray):Int×List Int:=(bf A s).getD Lq
def LP.open_(p:LP):Int:=p.1.n-p.1.used.length-(p.2.map (λx=>x.2.1)).sum
def dj(p:LP)(s:ByteArray)(k:Int):LP:=(p.1,cn p.2 s ((dk p.2 s).1+k,(dk p.2 s).2))
structure LP.ok(p:LP):Prop where
 n:0<=p.1.n/\p.1.n<=4096
 low:0<=p.1.low/\p.1.low<=4096
 used:p.1.used.length<=4096
 len:p.2.length<=10
 left: ∀x∈p.2,0<=x.2.1/\x.2.1<=4096
section
variable{w w' w1:Qm}{l:Nat}{V V' V1:dn}{x x':fW}{F:Nat->Prop}{s:ByteArray}
def iR(V:dn)(s:ByteArray)(x:fW):({V with A:=cn V.A s x}:dn).pure=(V.P,cn V.pure.2 s x.pure):=by
 unfold dn.pure;rw[<-ke fW.pure]
def fX(V:dn)(s:ByteArray):bf V.pure.2 s=(bf V.A s).map fW.pure:=iP fW.pure V.A s
def IF(w:Qm)(l:Nat)(V:dn)(s:ByteArray)(e:Qq)(w':Qm):Prop:=
 ∃V' x,e= .returned (.pointer (some ⟨x.b,0,none⟩))/\Qs (fA w l V w' V')/\bf V'.A s=some x/\x.pure=dk V.pure.2 s/\V'.pure=(V.P,cn V.pure.2 s x.pure)
def ta(H:Qs (cq w l V))(s:ByteArray)(i:s.size<=15):Qo zP 400 #[l,s] w (IF w l V s):=by
 have t:= @run_makeMap zP;have c:=H.look s i;have e:=H.c3;have f:=Nv _ _ e;dsimp only at f;have j:=zh (show dk V.pure.2 s=((bf V.A s).map fW.pure).getD Lq by unfold dk;rw[fX]);cases ho:bf V.A s with
 |some x=>
  have a:=zh ho;rw[ho] at c;simp only[kY] at c;clear ho;go_enter func400,ntmps400;go_wp2;go_ret;refine⟨V,x,rfl,.refl H zr,a,by rw[j,a];rfl,?_⟩;rw[nL (by rw[fX,a];rfl)];rfl
 |none=>
  have a:=zh ho;rw[ho] at c;simp only[kY] at c;clear ho;have n:=zh (mC i);have o:=H.mp.below ((ak w (.map #[] 0)).trans ((ak (w.alloc (.map #[] 0)) (.cells #[(),.map (some w.heap.size)] 477)).mono zm));go_enter func400,ntmps400;go_wp2_with (refine dt rfl (.tmp 15) (.tmp 16) (.tmp 19) rfl o dB cT underlying328 n.choose_spec (w.heap.size+1) rfl rfl rfl ?_);intro p k d
  have g:=zh (show fA w l V p {V with A:=cn V.A s ⟨w.heap.size+1,w.heap.size,0,[]⟩} by
   have q:Qr w.heap.size w ((w.alloc (.map #[] 0)).alloc (.cells #[(),.map (some w.heap.size)] 477)):=(ak w (.map #[] 0)).trans (ze.mono zm);have u:=H.lt V.lm (.inr (.inr (.inl rfl)));refine H.open_ a ((Ch.fresh q).trans d.out) ⟨?_,?_⟩ ⟨Pd _,Nt _⟩ k.out
   ·exact d.out.keep (ag zm) (by show w.heap.size+1≠V.lm;omega)
   ·exact((bL.new zP 3 gr eI w).below ze).ch d.out (by show w.heap.size≠V.lm;omega))
  have m:=g.at_.look s i;have h:=eT V.A s ⟨w.heap.size+1,w.heap.size,0,[]⟩;rw[h] at m;simp only[kY] at m;have e:=g.at_.c3;have f:=Nv _ _ e;dsimp only at f;have r:=zh h;clear k d h;go_wp2;go_ret;refine⟨_,_,rfl,g,r,by rw[j,a];rfl,?_⟩;rw[iR]
def tb(K:cq w l V)(g:V.pure.ok):Qo zP 399 #[l] w (aK w (.int .i64 V.pure.open_)):=by
 have H:=zh K;have v:=zh g;have M:=yD (λx=>x.2.1) 4096 V.pure.2 g.left;obtain⟨S,A⟩:=zx ((V.A.map (λx=>x.2.left)).sum);have C:(V.pure.2.map (λx=>x.2.1)).sum=S:=by rw[A];unfold dn.pure;rw[Py];rfl
 rw[C] at M;have a8:=g.len;have c5:0<=S/\S<=40960:=zo;obtain⟨N,D⟩:=zx (V.P.n-(V.P.used.length:Int));have c6: -4096<=N/\N<=4096:=by have o:0<=V.P.n/\V.P.n<=4096:=g.n;have q:V.P.used.length<=4096:=g.used;omega
 have a9:=zh (show V.pure.open_=N-S by unfold LP.open_;rw[C,D];rfl);have b0:=zh A;have b1:=zh D;have O:=zh (show∀x∈V.A,0<=x.2.left/\x.2.left<=4096 from λx a=>g.left (x.1,x.2.pure) (OI.2 ⟨x,a,rfl⟩));have c:=K.c3;have d:=Nv _ _ c;dsimp only at d;clear K g M C a8 A D;go_enter func399,ntmps399;go_wp2_with fail;refine zb (kA H) λw1 P=>?_
 have E:=H.below P;clear c d;have c:=E.c3;have d:=Nv _ _ c;dsimp only at d;go_wp2_with fail;refine zb (sV E.pool v.n v.used) λj Q=>?_
 rw[<-b1];have B2:=ai P Q;have r:=E.below Q;clear c d;have c:=r.c3;have d:=Nv _ _ c;dsimp only at d;go_wp2_with (refine eF rfl (.tmp 15) rfl r.mp underlying328 rfl ?_);intro R T F;have U:=ai B2 F;have b2:=r.below F;have b3:=zh T.out;clear T F c d;go_wp2_with fail;go_loopw [3] (λn wr=> ∃(z:Int) (L:List (ByteArray×fW)),n= .int .i64 z/\Qs (xA zP 9 mB yC wr j.heap.size V.lm (V.A.map λx=>(x.1,x.2.b)) (L.map λx=>(x.1,x.2.b)))/\Qs (cq wr l V/\Ch (·=j.heap.size) R wr)/\Qs (z=N-S+(L.map (λx=>x.2.left)).sum/\(∀x∈L,x∈V.A)/\L.length<=V.A.length)) (λ_ wr=>ut wr j.heap.size V.lm)
 case atStart=>exact⟨N,V.A,rfl,b3,zh ⟨b2,Ch.refl _ _⟩,zh ⟨by rw[<-b0];omega,λx a=>a,Nt _⟩⟩
 case round=>
  obtain⟨z,L,rfl,W,s,f⟩:=hrel
  have c7: -50000<=z/\z<=50000:=by
   have o:=yD (λx:ByteArray×fW=>x.2.left) 4096 L (λx a=>O x (f.2.1 x a));have q:=f.2.2;have X:V.A.length<=10:=by have:=v.len;unfold dn.pure at this;simpa using this
   have Y:=f.1;omega
  have b4:=zh W.len;go_wp2_with (refine du rfl (.tmp 16) rfl W rfl (λZ=>?_) (λi p w' h a0 t=>?_))
  ·have a1:L= []:=by simpa using Z
   have b5:=zh (show z=N-S by have:=f.1;rw[a1] at this;simpa using this);clear a1 Z;go_wp2;go_ret;have Y:Qr w.heap.size w wr:=(U.trans (s.2.below (B:=w.heap.size) (λk I=>by have:=B2.size;omega) U.size));exact⟨bp (by rw[a9,b5]),Y⟩
  ·rw[OG] at h
   cases a:L[i]? with
   |none=>rw[a] at h;cases h
   |some x=>
    rw[a] at h;obtain rfl:=Oa h;have m:=f.2.1 x (NO a);have a2:=r.lt;have b6:=t.out;have u:cq w' l V:=s.1.step λk I=>t.out.block k (s.1.lt k I) (λe=>by have:=a2 k I;have e:k=j.heap.size:=e;omega)
    have b7:=zh (show cq w' l V/\Ch (·=j.heap.size) R w' from⟨u,s.2.trans t.out⟩);have b8:=zh (show(L.eraseIdx i).map (λx=>(x.1,x.2.b))=(L.map (λx=>(x.1,x.2.b))).eraseIdx i from map_eraseIdx _ _ _);obtain⟨a3,b9⟩:=bE (u.ac x m).blk;have c1:=(u.ac x m).lt.1;have c2:=O x m;obtain⟨c8,a4⟩:=zy x.2.b;obtain⟨c3,a5⟩:=zy x.2.left;rw[<-a4] at a3 b9 c1;have a6:=zh a;have c9:=zh m;have J:=zh a0.out;rw[<-a5] at a3 c2;clear t a2 b6 u m a h a0;have a7:=J.run;simp only[yC] at a7;rw[<-a4] at a7;go_wp2;go_roundw
    case rel=>
     refine⟨z-c3,L.eraseIdx i,by go_num,zh (by rw[b8];exact J.1),b7,zh ⟨?_,λy c4=>f.2.1 y ((Ph _ _).subset c4),?_⟩⟩
     ·have:=sZ (λx:ByteArray×fW=>x.2.left) a6
      have o:=f.1;have q:=a5.out;omega
     ·have:=(Ph L i).length_le
      have:=f.2.2;omega
    case measure=>
     have o:=J.1.len;have q:=b4.out;have X:i<L.length:=(Ny.1 a6).1;rw[o,q,List.length_eraseIdx];simp[X];omega
def qZ(w:Qm)(l:Nat)(V:dn)(p:LP)(v:Qn)(e:Qq)(w':Qm):Prop:= ∃V',e= .returned v/\Qs (fA w l V w' V')/\V'.pure=p
def mE(H:Qs (cq w l V))(f:V.pure.ok)(s:ByteArray)(D:Qs (1<=s.size/\s.size<=15))(k:Int)(T:0<=k/\k<=V.pure.open_/\k<=4096):Qo zP 335 #[l,s,k] w (qZ w l V (dj V.pure s k) (.int .i64 0)):=by
 have E:=zh f;obtain⟨U,F,W⟩:=T;obtain⟨I,g⟩:=zy V.pure.open_;rw[<-g] at F;have X:=zi (k<0);have Y:=zi (I<k);have h:=f.left;clear f;go_enter func335,ntmps335;go_wp2_with fail;refine zb (qY s w D) λw1 i=>?_
 have j:=H.below i;go_wp2_with fail;refine zb (kA j) λZ m=>?_
 have B2:=ai i m;have n:=j.below m;go_wp2_with fail;refine zb (tb n E) λa0 p=>?_
 rw[<-g];have J:=ai B2 p;have K:=n.below p;go_wp2_with fail;refine(ta K s D.2).mono ?_;rintro e a1 ⟨L,x,rfl,q,c,d,r⟩;have t:=q.later J;have a:=q.at_.ac _ (cy c)
 have M:0<=x.left/\x.left<=4096:=by
  have e:x.left=(dk V.pure.2 s).1:=by rw[<-d];rfl
  rw[e];unfold dk;cases ho:bf V.pure.2 s with
  |none=>exact⟨Ov _,zd⟩
  |some y=>exact h _ (cy ho)
 have u:=zh t;have N:=zh c;have O:=zh d;have v:=zh r;have A:=zh a;obtain⟨P,a2⟩:=bE a.blk;have a3:=ad (o:=0) a.blk;have a4:=a.lt.1;obtain⟨Q,B⟩:=zy x.left;rw[<-B] at P M;have C:=zh (a.mp);clear c d r a t h;go_wp2;go_ret;have R:x.b≠x.m:=C.ne (bE A.blk).1;refine⟨_,rfl,u.trans (u.at_.upd (x':={x with left:=Q+k}) N rfl rfl (aP (Ch.refl _ _) (.inl (.inl rfl))) ⟨?_,?_⟩),?_⟩
 ·rw[al A.blk];rfl
 ·exact C.step (af _ (by show x.m≠x.b;exact λe=>R e.symm))
 ·rw[iR,v,kC]
  unfold dj;have e:x.pure=dk V.pure.2 s:=O;rw[<-e];have S:L.P=V.P:=Of Prod.fst v;rw[S,B];rfl
end
end
def oH(p:LP)(s:ByteArray)(L:List Int):LP:=({p.1 with used:=L.foldl gs p.1.used},cn p.2 s ((dk p.2 s).1-L.length,L.foldl gs (dk p.2 s).2))
def hZ(o:List Int×List Int)(x:Int):List Int×List Int:=if x∈o.2 then(o.1++ [x],o.2.erase x) else o
def IG{o:List Int×List Int}{x:Int}(a:x∈o.2):hZ o x=(o.1++ [x],o.2.erase x):=NH a
def IH{o:List Int×List Int}{x:Int}(a: ¬x∈o.2):hZ o x=o:=NB a
def fY(a b:List Int):List Int×List Int:=b.foldl hZ ([],a)
def wh(b:List Int): ∀o:List Int×List Int,(b.foldl hZ o).1.length<=o.1.length+b.length:=by
 induction b with
 |nil=>intro o;simp
 |cons x b a=>
  intro o;have:=a (hZ o x);have c:(hZ o x).1.length<=o.1.length+1:=by unfold hZ;split<;>simp
  simp only[Qj,NW];omega
def wi(b:List Int): ∀o:List Int×List Int,∀y∈(b.foldl hZ o).1,y∈o.1\/y∈b:=by
 induction b with
 |nil=>intro o y a;exact .inl a
 |cons x b c=>
  intro o y a;rcases c (hZ o x) y a with a|a
  ·unfold hZ at a
   split at a
   ·simp only[Og,Nz] at a
    rcases a with a|rfl
    ·exact .inl a
    ·exact .inr (OR ..)
   ·exact .inl a
  ·exact .inr (Oj _ a)
section
variable{w w' w1:Qm}{l:Nat}{V V' V1:dn}{x x':fW}{F:Nat->Prop}{s:ByteArray}
def ce.put{k:Int}(a:ce w x)(c:bL zP 3 gr eI w' x.m (cn (x.held.map λk=>(k,())) k ()))(d:Ch (·=x.m) w w'):ce w' {x with held:=gs x.held k}:=
 ⟨(d.block _ a.lt.1 (a.mp.ne a.c0)).trans a.blk,by rw[sW] at c;exact c⟩
def ce.del{k:Int}(a:ce w x)(c:bL zP 3 gr eI w' x.m (iH (x.held.map λk=>(k,())) k))(d:Ch (·=x.m) w w'):ce w' {x with held:=x.held.erase k}:=
 ⟨(d.block _ a.lt.1 (a.mp.ne a.c0)).trans a.blk,by rw[sX] at c;exact c⟩
def ce.look(c:ce w x)(k:Int)(d:aQ k):(Instr.lookup 323 (.map (some x.m)) (.int .i64 k) true).run zP w= .ok (.tuple #[.agg #[],.bool (decide (k∈x.held))]) w:=by
 have a:hC (.agg #[]) eI true (bf (x.held.map λx=>(x,())) k)= .tuple #[.agg #[],.bool (decide (k∈x.held))]:=by
  rw[<-qV];cases bf (x.held.map λx=>(x,())) k<;>rfl
 rw[<-a];exact c.mp.look eM eH underlying323 rfl true (gX (gn d))
def AY{k:Nat}(d:(V.A.map (·.1)).Nodup)(e:bf V.A s=some x)(f:x'.b=x.b)(g:x'.m=x.m)(h:({V with A:=cn V.A s x'}:dn).own l k):V.own l k:=by
 rcases h with a|a|a|⟨y,c,a⟩
 ·exact .inl a
 ·exact .inr (.inl a)
 ·exact .inr (.inr (.inl a))
 ·rcases mD d c with rfl|⟨c,-⟩
  ·refine .inr (.inr (.inr ⟨_,cy e,?_⟩))
   show k=x.b\/k=x.m;rw[<-f,<-g];exact a
  ·exact .inr (.inr (.inr ⟨y,c,a⟩))
def II(w:Qm)(l:Nat)(V:dn)(s:ByteArray)(L:List Int)(e:Qq)(w':Qm):Prop:=
 ∃V' v,e= .returned (.tuple #[v,()])/\fA w l V w' V'/\V'.pure=oH V.pure s L/\w'.ownsRow w.heap.size 3 1 v L.length (L.flatMap dK)/\ ∀k,V'.own l k->V.own l k
def tc(H:Qs (cq w l V))(F:V.pure.ok)(s:ByteArray)(c4:s.size<=15)(p:bf V.A s=some x)(k N:Nat)(c5:(k:Int)<=x.left)(a7:(k:Int)<=V.P.n-V.P.used.length)(c6:N<=4096)(a8:k<=(cb V.P N).length):
 Qo zP 336 #[l,s,(k:Int)] w (II w l V s ((cb V.P N).take k)):=by
 have I:=zh F;have f:=zh p;have J:=F.left (s,x.pure) (cy (by rw[fX,p];rfl));have J:0<=x.left/\x.left<=4096:=J;have a9:=zh a7;have b0:=zh a8;obtain⟨g,A⟩:=zy x.left;rw[<-A] at J c5;have c7:=zi ((k:Int)<0);have c8:=zi (g<(k:Int));obtain⟨L,B⟩:=zy ((cb V.P N).take k);have d:=zh (show L.length=k by rw[B,NP];omega)
 have U:=zh (show∀y∈L,-9223372036854775808<=y/\y<=9223372036854775807 by
  intro y W;rw[B] at W;have c9:=nK V.P N y (OO W);have d0:0<=V.P.low/\V.P.low<=4096:=F.low;omega)
 rw[<-B];clear F p a7 a8;go_enter func336,ntmps336;go_wp2_with fail;refine zb (kB H s c4) λw1 K=>?_
 rw[f];simp only[kY];have M:=H.below K;have a:=M.ac _ (cy f);obtain⟨c,h⟩:=bE a.blk;dsimp only at c h;rw[<-A] at c;have m:=a.lt.1;dsimp only at m;clear a;go_wp2_with fail;refine(CQ M.pool k I.n I.low I.used a9 N c6 b0).mono ?_;rintro e O ⟨v,rfl,X,C,r⟩;rw[<-B] at X C;have P:=zh ((M.pool' X r).later K);have S2:=zh (cP C);have Q:=ei C U;have b1:=zh Q;obtain⟨va,vc,rfl,-,-,-⟩:=id Q;have R:=zh K.size;have a:=P.at_.ac _ (cy f);have Y:=zh a;have Z:Qs (x.b<w.heap.size/\x.m<w.heap.size):=(H.ac _ (cy f)).lt;have b2:Qs (x.b≠x.m):=a.mp.ne a.c0;clear c h m Q;obtain⟨c,h⟩:=bE a.blk;have a0:=ad (o:=0) a.blk;dsimp only at c h a0;rw[<-A] at c;have m:=a.lt.1;dsimp only at m;clear a;rw[d];go_wp2_with fail;obtain⟨a1,D⟩:=zx (O.setCell ⟨x.b,0,none⟩ (.int .i64 (g-(k:Int))))
 have b3:=zh (show ce a1 {x with left:=g-(k:Int),held:=x.held} by
  rw[D];refine⟨?_,Y.mp.step (af _ (by show x.m≠x.b;exact λe=>b2 e.symm))⟩;rw[al Y.blk];rfl)
 have b4:=zh (show Ch (λq=>q=x.b\/q=x.m) O a1 by rw[D];exact aP (Ch.refl _ _) (.inl (.inl rfl)));rw[<-D];clear c h a0 m D;go_loopw [49] (λi wr=> ∃j:Nat,j<=k/\i= .int .i64 j/\Qs (ce wr {x with left:=g-(k:Int),held:=(L.take j).foldl gs x.held})/\Qs (Ch (λq=>q=x.b\/q=x.m) O wr)) (λi _=>k-(intOf i).toNat)
 case atStart=>exact⟨0,Nx _,rfl,zh (by simpa using b3.out),b4⟩
 case round=>
  obtain⟨j,d1,rfl,t,u⟩:=hrel;by_cases a2:j<k
  ·have n:j<L.length:=by rw[d];exact a2
   obtain⟨d2,d3,e,-,a3,a4⟩:=b1.out;obtain⟨b,o,rfl,S,p⟩:=a4 (λe=>by rw[e] at n;simp at n);rw[d] at e;injection e with b5 d4 b6
   subst b5 b6;have d5:w.heap.size<=b:=Nq R (S2 b o none _ _ rfl);have a5:=p j n;have b7:=(bT u S (by have:=Z.out;omega)).trans a5;have d6:=No S u.size;have d7:k<=vc/\vc<=9223372036854775807:=by rw[<-d];exact a3
   obtain⟨T,E⟩:=zx (L.getD j 0);rw[<-E] at b7;have b8:=zh (show aQ T by rw[E];unfold aQ;exact U _ (by simp[n]));have b9:=zh (show(L.take (j+1)).foldl gs x.held=gs ((L.take j).foldl gs x.held) T by rw[NE n,OS,show L[j]=T by rw[E];simp[n]];rfl);obtain⟨c,h⟩:=bE t.blk;have m:=t.lt.1;dsimp only at c h m;clear p a5 E a4 a3;go_wp2_with (refine dt rfl (.tmp 56) (.tmp 57) (.tmp 58) rfl t.mp eM eH underlying323 (gX (gn b8)) () rfl rfl rfl ?_);intro c1 a6 r;have c2:=zh (show ce c1 {x with left:=g-(k:Int),held:=(L.take (j+1)).foldl gs x.held} by rw[b9];exact t.put a6.out r.out);have c3:=u.trans (r.out.mono (G:=λq=>q=x.b\/q=x.m) λq _ hq=> .inr hq);clear a6 r;go_wp2;go_roundw
   case rel=>exact⟨j+1,a2,by go_num,c2,c3⟩
   case measure=>simp[intOf];omega
  ·obtain rfl:j=k:=zo
   go_wp2;go_ret2;refine⟨_,_,rfl,P.trans (P.at_.upd (x':={x with left:=g-(j:Int),held:=L.foldl gs x.held}) f rfl rfl u ?_),?_,?_,λq hq=>AY (V:=⟨V.pm,V.lm,_,V.A⟩) (x':={x with left:=g-(j:Int),held:=L.foldl gs x.held}) H.nodup f rfl rfl hq⟩
   ·have:=t.out
    rw[NC (by rw[d];exact Nt _)] at this;exact this
   ·rw[iR]
    unfold oH dk;rw[fX,f,d,A];rfl
   ·rw[d]
    have:=fo C u (λb S e=>by have:=Z.out;have:=R.out;omega);rw[d] at this;exact cj this R
def Kq(w:Qm)(x:fW)(o:List Int×List Int)(e:Qq)(w':Qm):Prop:=
 ∃u,e= .returned u/\Qs (ce w' {x with held:=o.2})/\Qs (w'.ownsRow w.heap.size 3 1 u o.1.length (o.1.flatMap dK))/\Qs (Ch (·=x.m) w w')
def wj{v:Qn}{b:List Int}(H:Qs (ce w x))(d9:aE w v b)(e0:b.length<=5000):Qo zP 430 #[x.b,v] w (Kq w x (fY x.held b)):=by
 obtain⟨a,c,rfl,a1,c1,a2⟩:=d9;have c2:=zh a1;have c3:=zh a2;obtain⟨c4,c5,c6,c7,c8⟩:=info_parts gi;obtain⟨n,S⟩:=zy b.length;rw[<-S] at e0 c1⊢;have a3:=H.lt;have T:=zh a3;obtain⟨e1,h⟩:=zy x.b;rw[<-h];clear a1 a2 a3;go_enter func430,ntmps430;go_wp2_with fail;go_loopw [14,5] (λi u wr=> ∃(k m c':Nat) (I:Option Addr),k<=n/\m<=k/\i= .int .i64 k/\u= .slice I m c'/\Qs (m=((b.take k).foldl hZ ([],x.held)).1.length)/\Qs (ce wr {x with held:=((b.take k).foldl hZ ([],x.held)).2})/\Qs (wr.ownsRow w.heap.size 3 1 u m (((b.take k).foldl hZ ([],x.held)).1.flatMap dK))/\Qs (Ch (·=x.m) w wr)) (λi _ _=>n-(intOf i).toNat)
 case atStart=>exact⟨0,0,0,none,Nx _,Nt _,rfl,rfl,zh zm,zh (by simpa using H.out),zh zw,(Ch.refl _ _)⟩
 case round=>
  obtain⟨k,m,c',I,e2,e3,rfl,rfl,a4,f,U,J⟩:=hrel;by_cases V:k<n
  ·have r:k<b.length:=by rw[<-S];exact V
   obtain⟨g,o,rfl,W,a5⟩:=c3 (λe=>by rw[e] at r;simp at r);have X:=a5 k r;have c9:=(bT J W (H.mp.ne X)).trans X;have e4:=No W J.size;obtain⟨d,M⟩:=zx (b.getD k 0);rw[<-M] at c9;have a6:=zh (show aQ d by rw[M];unfold aQ;exact c2 _ (by simp[r]));have s:=zh (show(b.take (k+1)).foldl hZ ([],x.held)=hZ ((b.take k).foldl hZ ([],x.held)) d by rw[NE r,OS,show b[k]=d by rw[M];simp[r]];rfl);obtain⟨t,A⟩:=bE f.blk;dsimp only at t A;rw[<-h] at t A;have B:=f.lt.1;dsimp only at B;rw[<-h] at B;have N:=f.look d a6;dsimp only at N;have e5:=J.size;have C:=f.below (ak wr (.cells #[] 481));have Y:=aS U (ak wr (.cells #[] 481));have a7:=J.trans (Ch.fresh (ak wr (.cells #[] 481)));obtain⟨K,L⟩:=zy (((b.take k).foldl hZ ([],x.held)).2);obtain⟨O,P⟩:=zy (((b.take k).foldl hZ ([],x.held)).1);have a8:=zh (show m=O.length by rw[P];exact a4);rw[<-L] at N f C;rw[<-P] at U Y;have d0:=zh (T.2);have e6:m<=5000:=zo;clear a5 X M t A B;obtain⟨t,A⟩:=bE C.blk;dsimp only at t A;rw[<-h] at t A;obtain⟨a9,b0⟩:=bE f.blk;dsimp only at a9 b0;rw[<-h] at a9 b0;have B:=C.lt.1;dsimp only at B;rw[<-h] at B;have b1:=f.lt.1;dsimp only at b1;rw[<-h] at b1;by_cases D:d∈K
   ·rw[show decide (d∈K)=true from NV D] at N
    have j:=zh (show hZ ((b.take k).foldl hZ ([],x.held)) d=(O++ [d],K.erase d) by rw[IG (by rw[<-L];exact D),<-P,<-L]);clear D;go_wp2_with (refine jL rfl (.tmp 31) (.tmp 32) rfl C.mp eM eH underlying323 (gX (gn a6)) rfl rfl ?_);intro b2 b3 Q;have d1:=zh (C.del b3.out Q.out);have E:=a7.trans Q.out;have b4:=zh (fo Y Q.out (λb W e=>by have:=d0.out;have e:b=x.m:=e;omega));have e7:=E.size;clear b3 Q;go_wp2_with (at_builtin;refine ci (enc:=dK) rfl _ _ 44 rfl w.heap.size 3 c4 _ 8 underlying44 c5 c6 c7 c8 rfl zd _ _ m _ [d] rfl (b4.alloc _) rfl (bC 1 (c:=1) (l:= [d]) (ag rfl) rfl ⟨Nt 1,zd⟩) (λ_=>rfl) ?qc1 ?qc2 zd ?qc3 ?_)
    case qc1=>intro x y b5;simp only[dK,NL,NJ,Ou] at b5;subst b5;rfl
    case qc2=>show(m+1)*8<140737488355328;omega
    case qc3=>omega
    intro d2 w7 Z F;have d3:=zh (show w7.ownsRow w.heap.size 3 1 d2 (m+1) ((O++ [d]).flatMap dK) by rw[NK];exact Z);have p:Ch (λq=>q∈Value.ownBlock (.slice I m c')) b2 w7:=⟨F.os,F.tape,F.output,by have:=F.size;simp at this;omega,λq hq a0=>(F.block q zu (λe=>a0 (by rw[<-e];rfl))).trans ((ak b2 _).block q hq)⟩;have b6:=b4.out;have R: ∀q,q<w.heap.size-> ¬(q∈Value.ownBlock (.slice I m c')):=λq hq e=>by have:=(ar b6 e).1;omega
    have d4:=d1.ch p (R _ T.1) (R _ T.2);have d5:=zh (show Ch (·=x.m) w w7 from⟨p.os.trans E.os,p.tape.trans E.tape,p.output.trans E.output,Nq E.size p.size,λq hq a0=>(p.block q zo (R q hq)).trans (E.block q hq a0)⟩);obtain⟨d6,d7,rfl⟩:=az Z;clear Z F p b6 R;go_wp2;go_roundw
    case rel=>exact⟨k+1,m+1,d7,d6,V,zo,by go_num,rfl,zh (by rw[s,j];simp[a8.out]),zh (by rw[s,j];exact d4),zh (by rw[s,j];exact d3),d5⟩
    case measure=>simp[intOf];omega
   ·rw[show decide (d∈K)=false from NQ D] at N
    have j:=zh (show hZ ((b.take k).foldl hZ ([],x.held)) d=(O,K) by rw[IH (by rw[<-L];exact D),P,L]);clear D;go_wp2;go_roundw
    case rel=>exact⟨k+1,m,c',I,V,zo,by go_num,rfl,zh (by rw[s,j];exact a8),zh (by rw[s,j];exact C),zh (by rw[s,j];exact Y),a7⟩
    case measure=>simp[intOf];omega
  ·obtain rfl:k=n:=zo
   have d8:=zh (show b.take k=b from NC (by rw[S];exact Nt _));go_wp2;go_ret;have b7:=f.out;have b8:=U.out;have b9:=a4.out;rw[d8] at b7 b8 b9;exact⟨_,rfl,b7,by rw[show(fY x.held b).1.length=m from b9.symm];exact b8,J⟩
end
def pA(p:LP)(s:ByteArray)(b:List Int):LP:=
 ({p.1 with used:=fz p.1.used (fY (dk p.2 s).2 b).1},cn p.2 s ((dk p.2 s).1+eJ p.1.used (fY (dk p.2 s).2 b).1,(fY (dk p.2 s).2 b).2))
def FP(p:LP)(s:ByteArray)(b:List Int):List (ByteArray×(Int×List Int)):=cn p.2 s ((dk p.2 s).1,(fY (dk p.2 s).2 b).2)
def FQ(p:LP)(s t:ByteArray)(b:List Int):LP:=
 (p.1,cn (FP p s b) t ((dk (FP p s b) t).1,(fY (dk p.2 s).2 b).1.foldl gs (dk (FP p s b) t).2))
section
variable{w w' w1:Qm}{l:Nat}{V V' V1:dn}{x x':fW}{F:Nat->Prop}{s t:ByteArray}
def uu(a:bf V.A s=some x):dk V.pure.2 s=x.pure:=by unfold dk;rw[fX,a];rfl
def wl{v:Qn}{b:List Int}(a0:cq w l V)(a1:V.pure.ok)(b7:s.size<=15)(L:bf V.A s=some x)(M:aE w v b)(b8:b.length<=5000):
 Qo zP 404 #[l,s,v] w (qZ w l V (pA V.pure s b) (.int .i64 (eJ V.P.used (fY x.held b).1))):=by
 have H:=zh a0;have i:=zh L;have n:=a1.left (s,x.pure) (cy (by rw[fX,L];rfl));have n:0<=x.left/\x.left<=4096:=n;have a2:=zh M;obtain⟨a,c,rfl,p,-⟩:=id M;have b9:=zh p;obtain⟨d,h⟩:=zx (fY x.held b);have j:=zh h
 have a3:=zh (show∀y∈d.1,-9223372036854775808<=y/\y<=9223372036854775807 by
  intro y N;rw[h] at N;rcases wi b _ y N with r|r
  ·cases r
  ·exact p y r)
 have O:=zh (show d.1.length<=5000 by have:=wh b ([],x.held);rw[h];unfold fY;simp at this;omega);obtain⟨G,t⟩:=zx (eJ V.P.used d.1);have c1:0<=G/\G<=5000:=by have:=kd V.P.used d.1;have:=O.out;omega
 rw[<-h,<-t];have Q:=zh t;obtain⟨a4,B⟩:=zy x.left;rw[<-B] at n;clear a0 a1 L M p h t;go_enter func404,ntmps404;go_wp2_with fail;refine zb (kB H s b7) λw1 R=>?_
 rw[i];simp only[kY];have C:=zh R;have D:=H.below R;have c2:=D.lt l (.inl rfl);go_wp2_with fail;refine aC (S:=(λw'=>w1.heap.size<=w'.heap.size)) 8 zk ?_ (λf=>?_)
 ·(first|exact Nt _|exact Nq f S2|exact Nq f I)
 refine zU 0 ?_;refine zU 1 ?_;refine zU 2 ?_;refine zU 3 ?_;refine zU 4 ?_;refine zO 5 λa5 E=>?_
 go_simp;refine(wj (b:=b) ((D.ac _ (cy i)).below (show Qr w1.heap.size w1 w1.drew from zr.drew)) (a2.below (C.trans (Below.mono (show Qr w1.heap.size w1 w1.drew from zr.drew) C.size))) b8).mono ?_;rintro e c3 ⟨u,rfl,a6,a7,T⟩;have S2:=zh T.size;have F:=zh (D.upd (x':={x with held:=(fY x.held b).2}) i rfl rfl ((Ch.fresh (show Qr w1.heap.size w1 w1.drew from zr.drew)).trans (T.mono λq _ hq=> .inr hq)) a6);refine zE E (by first|exact Nt _|exact Nq f S2|exact Nq f I) λf=>?_
 refine zO 6 λa5 E=>?_
 go_simp;refine(sY (l:=d.1) F.at_.pool (by rw[j];exact ei a7 (by rw[<-j];exact a3)) O).mono ?_;rintro e a8 ⟨rfl,a9,U⟩;have I:=zh U.size;have W:=F.trans (F.at_.pool' a9 U);refine zE E (by first|exact Nt _|exact Nq f S2|exact Nq f I) λf=>?_
 refine zU 7 ?_;refine zH ?_;rw[<-Q];obtain⟨k,m⟩:=zx ({V with A:=cn V.A s {x with held:=(fY x.held b).2},P:={V.P with used:=fz V.P.used d.1}}:dn);have J:=zh (show fA w l V a8 k by rw[m];exact W.later C);have K:bf k.A s=some {x with held:=d.2}:=by rw[m,j];exact eT _ _ _
 have b0:=zh K;have X:=zh m;have g:=J.at_.ac _ (cy K);have Y:=zh g;obtain⟨Z,b1⟩:=bE g.blk;have b2:=ad (o:=0) g.blk;dsimp only at Z b1 b2;rw[<-B] at Z;have b3:=g.lt.1;dsimp only at b3;have b4:Qs (x.b≠x.m):=g.mp.ne g.c0;clear K m g W f;go_wp2;go_ret;refine⟨_,rfl,J.trans (J.at_.upd (x':={x with left:=a4+G,held:=d.2}) b0 rfl rfl (aP (Ch.refl _ _) (.inl (.inl rfl))) ⟨?_,?_⟩),?_⟩
 ·rw[al Y.blk];rfl
 ·exact Y.mp.step (af _ (by show x.m≠x.b;exact λe=>b4 e.symm))
 ·have b5:k.pure.2=cn V.pure.2 s ({x with held:=(fY x.held b).2}:fW).pure:=by
   rw[X];exact(ke fW.pure _ _ _).symm
  have b6:k.P={V.P with used:=fz V.P.used d.1}:=by rw[X]
  rw[iR,b5,kC,b6];unfold pA;rw[uu i,<-show d=fY x.pure.2 b from j,B,Q];rfl
def CR{v:Qn}{b:List Int}(H:Qs (cq w l V))(e3:s.size<=15)(b8:Qs (1<=t.size/\t.size<=15))(F:bf V.A s=some x)(b9:Qs (aE w v b))(e4:b.length<=5000)(Z:(fY x.held b).1≠ []):
 Qo zP 403 #[l,s,t,v] w (qZ w l V (FQ V.pure s t b) (.int .i64 (fY x.held b).1.length)):=by
 have k:=zh F;obtain⟨a,c,rfl,a0,-⟩:=id b9;obtain⟨d,m⟩:=zy (fY x.held b)
 have a1:=zh (show∀y∈d.1,-9223372036854775808<=y/\y<=9223372036854775807 by
  intro y a2;rw[m] at a2;rcases wi b _ y a2 with h|h
  ·cases h
  ·exact a0 y h)
 rw[<-m] at Z⊢;obtain⟨n,f⟩:=zy d.1.length;have e5:n<=5000:=by have:=wh b ([],x.held);rw[f,m];unfold fY;simp at this;omega
 have e6:1<=n:=by rw[f];exact Ps.2 Z
 rw[<-f];have e7:decide ((n:Int)=0)=false:=NQ zo;clear F a0 Z;go_enter func403,ntmps403;go_wp2_with fail;refine zb (kB H s e3) λw1 a3=>?_
 rw[k];simp only[kY];have c1:=H.below a3;go_wp2_with fail;refine zb (qY t _ b8) λe8 a4=>?_
 have B2:=ai a3 a4;have O:=c1.below a4;go_wp2_with fail;refine(wj (b:=b) (O.ac _ (cy k)) (b9.below B2) e4).mono ?_;rintro e c2 ⟨u,rfl,B,p,a5⟩;dsimp only at B p a5;rw[<-m] at B p;rw[<-f] at p;have P:=zh (O.upd (x':={x with held:=d.2}) k rfl rfl (a5.mono λq _ hq=> .inr hq) B);obtain⟨a6,Q,rfl⟩:=az p;obtain⟨I,J⟩:=zy ({V with A:=cn V.A s {x with held:=d.2}}:dn);rw[<-J] at P;go_wp2_with fail;refine(ta P.at_ t b8.2).mono ?_;rintro e a7 ⟨R,y,rfl,K,S,a8,a9⟩;have b0:=P.trans K;have c3:=zh S;have c4:=zh a8;have b1:=zh a9;have L:=zh (K.at_.ac _ (cy S));have b2:aE c2 (.slice a6 n Q) d.1:=ei (by rw[<-f];exact p) a1
 have c5:=zh (show aE a7 (.slice a6 n Q) d.1 by
  obtain⟨c6,c',e,h,T,c7⟩:=b2;refine⟨c6,c',e,h,T,λc8=>?_⟩;obtain⟨g,o,rfl,C,D⟩:=c7 c8;refine⟨g,o,rfl,No C K.ch.size,λj b3=>(bT K.ch C (λU=>?_)).trans (D j b3)⟩;have e9:=cP p g o none n Q (by injection e with W _ b4;rw[W]);have U:=AY (x':={x with held:=d.2}) H.nodup k rfl rfl (by rw[<-J];exact U);have:=O.lt g U;omega)
 have c9:y.b≠y.m:=L.mp.ne L.c0;clear S a8 a9 b2 c9;go_wp2_with fail;go_loopw [35] (λi wr=> ∃j:Nat,j<=n/\i= .int .i64 j/\Qs (ce wr {y with held:=(d.1.take j).foldl gs y.held})/\Qs (Ch (·=y.m) a7 wr)) (λi _=>n-(intOf i).toNat)
 case atStart=>exact⟨0,Nx _,rfl,zh (by simpa using L.out),(Ch.refl _ _)⟩
 case round=>
  obtain⟨j,b3,rfl,E,M⟩:=hrel;by_cases b5:j<n
  ·have r:j<d.1.length:=by rw[<-f];exact b5
   obtain⟨f0,f1,e,-,d0,b6⟩:=c5.out;obtain⟨g,o,rfl,C,F⟩:=b6 (λe=>by rw[e] at r;simp at r);rw[<-f] at e d0;injection e with W f2 b4
   subst W b4;have X:=F j r;have d1:=(bT M C (L.mp.ne X)).trans X;have f3:=No C M.size;obtain⟨Y,N⟩:=zx (d.1.getD j 0);rw[<-N] at d1;have d2:=zh (show aQ Y by rw[N];unfold aQ;exact a1 _ (by simp[r]));have d3:=zh (show(d.1.take (j+1)).foldl gs y.held=gs ((d.1.take j).foldl gs y.held) Y by rw[NE r,OS,show d.1[j]=Y by rw[N];simp[r]];rfl);obtain⟨d4,d5⟩:=bE E.blk;have d6:=E.lt.1;dsimp only at d4 d5 d6;clear F X N b6;go_wp2_with (refine dt rfl (.tmp 42) (.tmp 43) (.tmp 44) rfl E.mp eM eH underlying323 (gX (gn d2)) () rfl rfl rfl ?_);intro d7 b7 D;have d8:=zh (show ce d7 {y with held:=(d.1.take (j+1)).foldl gs y.held} by rw[d3];exact E.put b7.out D.out);have d9:=M.trans D.out;clear b7 D;go_wp2;go_roundw
   case rel=>exact⟨j+1,b5,by go_num,d8,d9⟩
   case measure=>simp[intOf];omega
  ·obtain rfl:j=n:=zo
   have e0:=zh (show ce wr {y with held:=d.1.foldl gs y.held} by
    have:=E.out;rw[NC (by rw[<-f];exact Nt _)] at this;exact this)
   go_wp2;go_ret;refine⟨_,rfl,(b0.later B2).trans (b0.at_.upd (x':={y with held:=d.1.foldl gs y.held}) c3 rfl rfl (M.mono λq _ hq=> .inr hq) e0),?_⟩
   have B:FP V.pure s b=I.pure.2:=by
    unfold FP;rw[uu k,J,iR,<-show d=fY x.pure.2 b from m];rfl
   rw[iR];unfold FQ;have e1:R.pure.2=cn I.pure.2 t y.pure:=by rw[b1]
   have e2:R.P=V.P:=by
    have h:R.pure.1=I.P:=by rw[b1]
    have T:I.P=V.P:=by rw[J]
    exact h.trans T
   rw[B,e1,kC,e2,<-c4,uu k,<-show d=fY x.pure.2 b from m];rfl
end
section
open Go.RowKit Go.Maps Go.Shelf
def uv(w:Qm)(e:Qq)(w':Qm):Prop:=e= .returned (.slice none 0 0)/\Qs (Qr w.heap.size w w')
def CS(b:Nat)(w:Qm):Qo zP 425 #[.map (some b)] w (λe w'=>e= .returned (.func (.func 446) #[] #[w.heap.size])/\w'=w.alloc (.cells #[.map (some b)] 323)):=
 (callsIn_wide (n:=5)).1 (AnyZI.keys_in keysA Fence.wide 5 trivial rfl (some b) w)
def CT{b m:Nat}{w:Qm}(g:w.cell? ⟨b,0,none⟩=some (.map (some m)))(q:bL zP 3 gr eI w m []):Qo zP 444 #[.func (.func 446) #[] #[b]] w (uv w):=by
 refine(callsIn_wide (n:=5)).1 ?_
 have h:w.ownsMap (H:=Unit) zP 3 (plainElem zP 481) m 0 (.map []):=by
  obtain⟨es,d,a,i⟩:=q
  have:es=#[]:=by
   have:=i.len;exact Array.eq_empty_of_size_eq_zero (by simpa using this)
  subst this;exact⟨#[],d,a,⟨zm,MapKept.stamped_empty d,zm⟩,Nt _,rfl⟩
 have j:SeqGives Fence.wide 3 zP 446 #[b] encZ (λc=>c.Perm (intKeys (.map []:DataW Unit))) 0 w:=
  AnyZI.keys_gives (ρ:=keysA_ren) {keysA with} Fence.wide 3 trivial rfl zo b m 0 (.map []) w (Nv w _ g) g h
 have f:=AnyZI.collect_in collA Fence.wide 5 trivial trivial rfl zo 446 #[b] trivial (enters_of func446 zk rfl) _ _ zd zd w j;change CallsIn _ _ zP 444 _ _ _ at f;refine f.mono ?_;rintro e w' ⟨v,c,rfl,k,r,l,a⟩
 have o:c= []:=by
  have p:=k.length_eq;exact NI (by rw[p];rfl)
 exact⟨by rw[l.2 o],a⟩
def wm{b m:Nat}{w:Qm}(d:Qs (w.cell? ⟨b,0,none⟩=some (.map (some m))))(f:Qs (bL zP 3 gr eI w m [])):Qo zP 424 #[.func (.func 446) #[] #[b]] w (uv w):=by
 go_enter func424,ntmps424;go_wp2_with fail;refine(CT d f).mono ?_;rintro e w1 ⟨rfl,c⟩;go_wp2_with fail;refine(slices_Sort_int_none none 0 _).mono ?_;rintro e g ⟨rfl,a⟩;have a:=a.symm;subst a;go_wp2;go_ret;exact⟨rfl,c⟩
section
variable{w w' w1:Qm}{l:Nat}{V V' V1:dn}{x x':fW}{F:Nat->Prop}{s t:ByteArray}
def yE(H:Qs (cq w l V))(p:s.size<=15)(j:Qs (bf V.A s=some x))(q:Qs (x.held= [])):Qo zP 386 #[l,s] w (uv w):=by
 go_enter func386,ntmps386;go_wp2_with fail;refine zb (kB H s p) λw1 d=>?_
 rw[j];simp only[kY];have f:=H.below d;have a:=f.ac _ (cy j);have k:=zh a;obtain⟨g,h⟩:=bE a.blk;dsimp only at g h;have i:=a.lt.1;dsimp only at i;clear f a;go_wp2_with fail;refine(CS x.m w1).mono ?_;rintro e r ⟨rfl,c⟩;have c:=c.symm;subst c;have B2:=ai d (ak w1 (.cells #[.map (some x.m)] 323))
 have m:=zh (show bL zP 3 gr eI (w1.alloc (.cells #[.map (some x.m)] 323)) x.m [] by
  have:=(k.mp).below (ak w1 (.cells #[.map (some x.m)] 323));rw[show(s,x).2.held= [] from q] at this;exact this)
 clear g h i;go_wp2_with fail;refine(wm (yj rfl) m).mono ?_;rintro e t ⟨rfl,n⟩;have o:=ai B2 n;go_wp2;go_ret;exact⟨rfl,o⟩
def yF(p:LP)(s:ByteArray):LP:=(p.1,iH p.2 s)
def yG(H:Qs (cq w l V))(p:s.size<=15)(B:Qs (bf V.A s=some x))(C:Qs (x.held= [])):Qo zP 405 #[l,s] w (qZ w l V (yF V.pure s) (.int .i64 0)):=by
 have D:=H.lt l (.inl rfl);have q:=zh (mC p);go_enter func405,ntmps405;go_wp2_with fail;refine zb (kA H) λw1 h=>?_
 have d:=H.below h;have E:=d.lt l (.inl rfl);go_wp2_with fail;refine aC (S:=(λw'=>w1.heap.size<=w'.heap.size)) 8 zk ?_ (λa=>?_)
 ·(first|exact Nt _|exact Nq a S2|exact Nq a g)
 refine zU 0 ?_;refine zU 1 ?_;refine zU 2 ?_;refine zU 3 ?_;refine zU 4 ?_;refine zO 5 λr f=>?_
 go_simp;refine(yE (d.below (show Qr w1.heap.size w1 w1.drew from zr.drew)) p B C).mono ?_;rintro e F ⟨rfl,i⟩;have S2:=zh i.size;have B2:=zh (ec i);have j:=d.below B2;refine zE f (by first|exact Nt _|exact Nq a S2|exact Nq a g) λa=>?_
 refine zO 6 λr f=>?_
 go_simp;refine(sY (l:= []) j.pool (fg _) zm).mono ?_;rintro e I ⟨rfl,t,k⟩;have g:=zh k.size;have u:=zh (j.pool' t k);refine zE f (by first|exact Nt _|exact Nq a S2|exact Nq a g) λa=>?_
 refine zU 7 ?_;refine zH ?_;simp only[eJ];have c:=zh ((u.later B2).later h);have m:=c.at_.c3;have v:=Nv _ _ m;dsimp only at m v;have y:=zh c.at_.mp;clear a;go_wp2_with (refine jL rfl (.tmp 18) (.tmp 19) rfl y dB cT underlying328 q.choose_spec rfl rfl ?_);intro J n o;have A:=c.trans (c.at_.shut o.out n.out);clear n o;go_wp2;go_ret;refine⟨_,rfl,A,?_⟩;unfold yF dn.pure;dsimp only;rw[<-qX fW.pure];rfl
end
end
def Kr(w:Qm)(p:LP)(e:Qq)(w':Qm):Prop:= ∃l V,e= .returned (.pointer (some ⟨l,0,none⟩))/\Qs (cq w' l V)/\V.pure=p/\Qs (∀k,V.own l k->w.heap.size<=k)/\Qr w.heap.size w w'
def ra(a n:Int)(w:Qm)(v:0<=a/\a<=4096)(y:0<=n/\n<=4096):Qo zP 179 #[a,n] w (Kr w (⟨a,n,[]⟩,[])):=by
 have A:= @run_makeMap zP;go_enter func179,ntmps179;go_wp2_with fail;refine(FM a n w v y).mono ?_;rintro e w1 ⟨p,m,rfl,c,⟨B,h,C⟩,d⟩;have f:=zh c;obtain⟨c0,i,D,-⟩:=c;have j:=Nv w1 _ c0;dsimp only at c0 i j;go_wp2;go_ret;have g:Qr w1.heap.size w1 ((w1.alloc (.map #[] 0)).alloc (.cells #[a,n,.map (some m),.map (some w1.heap.size)] 330)):=(ak w1 (.map #[] 0)).trans (ze.mono zm);have l:=d.size;have E:=f.mp.lt;obtain⟨q,r,s,t⟩:=fG (ag (w:=w1.alloc (.map #[] 0)) (o:= .cells #[a,n,.map (some m),.map (some w1.heap.size)] 330) (b:=w1.heap.size+1) zm);refine⟨w1.heap.size+1,⟨m,w1.heap.size,⟨a,n,[]⟩,[]⟩,rfl,⟨⟨q,r,s,f.mp.below g⟩,t,?_,zm,?_,zm,zm⟩,rfl,?_,ai d g⟩
 ·exact(bL.new zP 9 mB yC w1).below ze
 ·show m≠w1.heap.size;omega
 ·rintro k (rfl|rfl|rfl|⟨x,u,-⟩)
  ·omega
  ·exact h
  ·exact l
  ·cases u
def bA:ByteArray:=⟨#[102,114,101,115,104]⟩
section
variable{w w' w1:Qm}{l q:Nat}{V V' V1:dn}{x x':fW}{F:Nat->Prop}{s t:ByteArray}
def aE.ch_{v:Qn}{b:List Int}(r:aE w v b)(h:Ch F w w')(s: ∀k,aD v k-> ¬F k):aE w' v b:=by
 obtain⟨a,c,rfl,i,l,m⟩:=r;refine⟨a,c,rfl,i,l,λd=>?_⟩;obtain⟨g,o,rfl,f,n⟩:=m d;have p:aD (.slice (some ⟨g,o,none⟩) (b.length:Nat) c) g:=⟨λe=>d (NI e),rfl⟩;exact⟨g,o,rfl,No f h.size,λj q=>(bT h f (s g p)).trans (n j q)⟩
def iS{y:Int×List Int}(a:bf V.pure.2 s=some y): ∃x,bf V.A s=some x/\x.pure=y:=by
 rw[fX] at a;cases hx:bf V.A s with
 |none=>rw[hx] at a;cases a
 |some x=>rw[hx] at a;exact⟨x,rfl,Oa a⟩
def CU{A:List (ByteArray×(Int×List Int))}{s:ByteArray}(a:(bf A s).isSome=true):bf A s=some (dk A s):=by
 unfold dk;cases hx:bf A s with
 |none=>rw[hx] at a;cases a
 |some y=>rfl
def rb(p:LP):List Int:=(cb (dj p bA p.open_).1 p.1.n.toNat).take p.open_.toNat
def gy(p:LP):LP:=dj p bA p.open_
def mF(p:LP):LP:=oH (gy p) bA (rb p)
def rd(p:LP)(who:ByteArray)(b:List Int):LP:=FQ (mF p) bA who b
def td(p:LP)(who:ByteArray)(b:List Int):LP:=pA (rd p who b) bA (rb p)
def AZ(p:LP)(who:ByteArray)(b:List Int):LP:=yF (td p who b) bA
structure iw(p:LP)(who:ByteArray)(b:List Int):Prop where
 f:0<=p.open_/\p.open_<=4096
 o0:p.ok
 o1:(gy p).ok
 o3:(rd p who b).ok
 len:p.open_.toNat<=(cb (gy p).1 p.1.n.toNat).length
 left:p.open_<=(dk (gy p).2 bA).1
 fit:p.open_<=(gy p).1.n-(gy p).1.used.length
 mv:(fY (dk (mF p).2 bA).2 b).1.length=b.length
 ne:(fY (dk (mF p).2 bA).2 b).1≠ []
 a3:(bf (rd p who b).2 bA).isSome=true
 hd:(dk (td p who b).2 bA).2= []
 who:1<=who.size/\who.size<=15
 b:b.length<=5000
 tl:(rb p).length<=5000
def CV{v:Qn}{b:List Int}{who:ByteArray}(c4:cq w l V)(hq:w.cell? ⟨q,11,none⟩=some (.pointer (some ⟨l,0,none⟩)))(c5: ¬V.own l q)(L:aE w v b)(c6: ∀k,aD v k-> ¬V.own l k)(c7:iw V.pure who b):
 Qo zP 339 #[q,who,v] w (qZ w l V (AZ V.pure who b) (.bool true)):=by
 have H:=zh c4;have c8:=zh L;have c9:=zh c6;have a:=zh c7;have g:=zh hq;have i:=zh c5;have t:=Nv w _ hq;dsimp only at t;obtain⟨va,vc,rfl,-⟩:=id L;have j:=zh t;obtain⟨p,u⟩:=zx V.pure;rw[<-u] at a;have d:=zh u;have x:=a.f;obtain⟨f,A⟩:=zx p.open_;rw[<-A] at x;have c:=zh A;have B:=zh (zo:((f.toNat:Nat):Int)=f);clear c4 L c6 c7 c5 u A;go_enter func339,ntmps339;go_wp2_with fail;refine zb (tb H (by rw[<-d];exact a.o0)) λw1 C=>?_
 rw[<-d,<-c];have d0:=zh C;have d1:=H.below C;have M:=ae g C;have N:=Nv _ _ M;dsimp only at N;clear hq t;go_wp2_with fail;refine(mE d1 (by rw[<-d];exact a.o0) bA ⟨zd,zd⟩ f (by rw[<-d,<-c];exact⟨x.1,Ov _,x.2⟩)).mono ?_;rintro e d2 ⟨m,rfl,d3,O⟩;have h:=zh (d3.later d0);have n:=zh (show m.pure=gy p by rw[O,<-d,c];rfl);have P:=(bT h.ch j i).trans g;have Q:=Nv _ _ P;dsimp only at Q;clear O M N;obtain⟨d4,R,S⟩:=iS (V:=m) (s:=bA) (y:=dk (gy p).2 bA) (by rw[n];unfold dk gy dj;rw[eT];rfl);have d5:=zh R;have d6:=zh (show f<=d4.left by rw[c];have:=a.left;rw[<-S] at this;exact this);have T:=zh (show 0<=p.1.n/\p.1.n<=4096 from a.o0.n);have D:=zh (show m.P=(gy p).1 from Of Prod.fst n);clear R S;go_wp2_with fail;have E:=tc h.at_ (by rw[n];exact a.o1) bA zd d5 f.toNat p.1.n.toNat (by rw[B];exact d6) (by rw[B,D,c];exact a.fit) (by have:=T.out;omega) (by rw[D,c];exact a.len);rw[B] at E;refine E.mono ?_;clear E;rintro e d7 ⟨U,f7,rfl,W,F,o,X⟩;have d8:=zh (show(cb m.P p.1.n.toNat).take f.toNat=rb p by rw[D,c];rfl);rw[d8] at F o;have r:=h.trans W;have Y:=zh (show U.pure=mF p by rw[F,n];rfl);have Z:=zh o;have d9:=zh X;have a0:=(bT r.ch j i).trans g;have a1:=Nv _ _ a0;dsimp only at a1;have f8:=zh (show w.heap.size<=d2.heap.size from h.ch.size);obtain⟨e0,e1,rfl⟩:=az o;clear W F P Q o X;obtain⟨a2,a3,a4⟩:=iS (V:=U) (s:=bA) (y:=dk (mF p).2 bA) (by rw[Y];unfold dk mF oH;rw[eT];rfl);have e2:=zh a3;have a5:=zh (show fY a2.held b=fY (dk (mF p).2 bA).2 b by rw[<-a4];rfl);clear a3 a4;go_wp2_with fail;refine(CR r.at_ zd a.who e2 (c8.ch_ r.ch c9) a.b (by rw[a5];exact a.ne)).mono ?_;rintro e f9 ⟨a6,rfl,a7,a8⟩;have a9:(fY a2.held b).1.length=b.length:=by rw[a5];exact a.mv
 rw[a9];have I:=r.trans a7;have J:=zh (show a6.pure=rd p who b by rw[a8,Y];rfl);have b0:=(bT I.ch j i).trans g;have b1:=Nv _ _ b0;dsimp only at b1;obtain⟨g0,b2,g1⟩:=iS (V:=a6) (s:=bA) (y:=dk (rd p who b).2 bA) (by rw[J];exact CU a.a3);have e3:=zh b2
 have b3:aE d7 (.slice e0 (rb p).length e1) (rb p):=ei Z (by
  intro y e4;have e5:=nK _ _ y (OO e4);have e6:=a.o1.low;have g2:=T.out;have g3:(dj p bA p.open_).1.low=(gy p).1.low:=rfl;omega)
 have e7:=b3.ch_ a7.ch (λk e8 e9=>by
  have e5:=(ar Z (cJ e8)).1;have e6:=h.at_.lt k (d9 k e9);omega)
 clear a8 a0 a1 b2 a9 b3;go_wp2_with fail;refine(wl I.at_ (by rw[J];exact a.o3) zd e3 e7 a.tl).mono ?_;rintro e g4 ⟨b4,rfl,f0,b5⟩;have K:=I.trans f0;have b6:=zh (show b4.pure=td p who b by rw[b5,J];rfl);have b7:=(bT K.ch j i).trans g;have b8:=Nv _ _ b7;dsimp only at b8;obtain⟨f1,b9,c1⟩:=iS (V:=b4) (s:=bA) (y:=dk (td p who b).2 bA) (by rw[b6];unfold dk td pA;rw[eT];rfl);have f2:=zh b9;have f3:=zh (show f1.held= [] by have:=a.hd;rw[<-c1] at this;exact this);clear b5 b0 b1 b9 c1;go_wp2_with fail;refine(yG K.at_ zd f2 f3).mono ?_;rintro e g5 ⟨c2,rfl,f4,c3⟩;have f5:=K.trans f4;have f6:=zh (show c2.pure=AZ p who b by rw[c3,b6];rfl);clear c3 b7 b8;go_wp2;go_ret;exact⟨c2,zm,f5,by rw[f6,d]⟩
end
structure bj where
 id:Int
 tier:Int
 shard:Int
 blk:Int
 bv:Qn
def bj.cells(e:bj):List Qn:= [.int .u64 e.id,.int .i64 e.tier,.int .i64 e.shard,.int .i64 0,.int .i64 1,e.bv]
def bj.val(e:bj):Qn:= .agg #[.int .u64 e.id,(e.tier:Int),(e.shard:Int),(),(1:Int),e.bv]
structure bI where
 gen:Int
 id:Int
 now:Int
 pn:ByteArray
 pl:List ah
 fl:List Int
 tn:ByteArray
 tl:List ah
 src:List Int
 bound:Int
 done:Int
 es:List bj
def nM(w:Qm)(v:Qn)(l:List bj):Prop:=aB 6 bj.cells w v l/\ ∀e∈l,aE w e.bv [e.blk]
structure re(w:Qm)(c:bI)(pv fv ov sv ev:Qn):Prop where
 p:aH w pv c.pl
 f:aE w fv c.fl
 o:aH w ov c.tl
 s:aE w sv c.src
 e:nM w ev c.es
def fL(w:Qm)(v:Qn)(c:bI):Prop:= ∃pv fv ov sv ev,v= .agg #[.int .u64 c.gen,.int .u64 c.id,(c.now:Int),c.pn,pv,fv,c.tn,ov,sv,(c.bound:Int),(c.done:Int),ev]/\re w c pv fv ov sv ev
structure bI.plain(c:bI):Prop where
 gen:0<c.gen/\c.gen<=18446744073709551615
 now:0<=c.now/\c.now<=1099511627776
 pol:cD c.pn c.pl=true
 fl:c.fl.length=c.pl.length/\ ∀f∈c.fl,0<=f/\f<=4611686018427387904
def bI.quiet(c:bI):Prop:=c.tn=ByteArray.empty/\c.tl= []/\c.src= []/\c.bound=0/\c.done=0
structure bI.busy(c:bI):Prop where
 pol:cD c.tn c.tl=true
 src:c.src.length=c.tl.length/\ ∀s∈c.src,0<=s/\s<c.pl.length
 bound:0<=c.bound/\c.bound<=4096
 done:0<=c.done/\c.done<=100
section
variable{w w' w1:Qm}{c:bI}{v pv fv ov sv ev:Qn}{b:Nat}
def nM.below{l:List bj}(a:nM w v l)(c:Qr w.heap.size w w'):nM w' v l:=⟨a.1.below c,λe d=>(a.2 e d).below c⟩
def re.below(a:re w c pv fv ov sv ev)(d:Qr w.heap.size w w'):re w' c pv fv ov sv ev:=⟨a.p.below d,a.f.below d,a.o.below d,a.s.below d,a.e.below d⟩
def fL.below(i:fL w v c)(j:Qr w.heap.size w w'):fL w' v c:=by obtain⟨a,b,d,e,f,g,h⟩:=i;exact⟨a,b,d,e,f,g,h.below j⟩
def bQ{w:Qm}{b:Nat}{T:Qp}{a c d e f g h i j k l m:Qn}(n:w.heap[b]?=some (.cells #[a,c,d,e,f,g,h,i,j,k,l,m] T)):
 w.cell? ⟨b,0,none⟩=some a/\w.cell? ⟨b,1,none⟩=some c/\w.cell? ⟨b,2,none⟩=some d/\w.cell? ⟨b,3,none⟩=some e/\w.cell? ⟨b,4,none⟩=some f/\w.cell? ⟨b,5,none⟩=some g/\w.cell? ⟨b,6,none⟩=some h/\w.cell? ⟨b,7,none⟩=some i/\w.cell? ⟨b,8,none⟩=some j/\w.cell? ⟨b,9,none⟩=some k/\w.cell? ⟨b,10,none⟩=some l/\w.cell? ⟨b,11,none⟩=some m:=by
 refine⟨?_,?_,?_,?_,?_,?_,?_,?_,?_,?_,?_,?_⟩<;>(rw[NA w b _ _ _ _ n];rfl)
def wn(n m:Int)(w:Qm):Qo zP 434 #[n,m] w (aK w (.bool (decide (0<=n)&&decide (n<=m)))):=by
 by_cases a:0<=n
 ·go_enter func434,ntmps434
  go_wp2;go_ret;exact⟨bu (by simp[a]),ND _ _⟩
 ·go_enter func434,ntmps434
  go_wp2;go_ret;exact⟨bu (by simp[a];omega),ND _ _⟩
def dM{n m:Int}(w:Qm)(a:0<=n/\n<=m):Qo zP 434 #[n,m] w (aK w (.bool true)):=by
 have:=wn n m w
 rwa [show(decide (0<=n)&&decide (n<=m))=true by simp[a.1,a.2]] at this
def rg{n:ByteArray}{l:List ah}(a:ie w v n l)(e:cD n l=true):Qo zP 435 #[v] w (aK w (.bool true)):=by
 have c:=zh a;obtain⟨f,rfl,-⟩:=a;go_enter func435,ntmps435;go_wp2_with fail;refine zb (eR (c.below ze) e) λw1 d=>?_
 go_wp2;go_ret;exact⟨rfl,ai ze d⟩
def wo(a:fL w v c)(hq:c.quiet):Qo zP 363 #[v] w (aK w (.bool false)):=by
 obtain⟨pv,fv,ov,sv,ev,rfl,a⟩:=a;obtain⟨d,e,-⟩:=hq;obtain⟨f,g,rfl,-⟩:=a.o;rw[d,e];clear a d e;go_enter func363,ntmps363;go_wp2;go_ret;exact⟨rfl,ak _ _⟩
def te(d:fL w v c)(f:1<=c.tn.size):Qo zP 363 #[v] w (aK w (.bool true)):=by
 obtain⟨pv,fv,ov,sv,ev,rfl,d⟩:=d;clear d
 have e:c.tn.toList.isEmpty=false:=by
  rw[ByteArray.toList_eq];cases hl:c.tn.data.toList with
  |nil=>
   have:c.tn.data.toList.length=c.tn.size:=zm;rw[hl] at this;simp at this;omega
  |cons a l=>rfl
 go_enter func363,ntmps363;go_wp2;go_ret;exact⟨rfl,ak _ _⟩
def FR(a:re w c pv fv ov sv ev):ie w (.agg #[c.pn,pv]) c.pn c.pl:=⟨_,rfl,a.p⟩
def FS(a:re w c pv fv ov sv ev):ie w (.agg #[c.tn,ov]) c.tn c.tl:=⟨_,rfl,a.o⟩
def yH(a:fL w v c)(d:Qs c.plain):Qo zP 412 #[v] w (aK w (.bool true)):=by
 obtain⟨pv,fv,ov,sv,ev,rfl,a⟩:=a;have H:=zh a;obtain⟨a0,a1,rfl,-⟩:=a.p;obtain⟨a2,a3,rfl,P,Q,r⟩:=a.f;have R:=zh r;obtain⟨n,f⟩:=zy c.pl.length;have a4:n<=5:=by have:=(aN d.pol).1;rw[f];exact this
 have m:=zh (show c.fl.length=n by rw[f];exact d.fl.1);rw[m] at Q;have S: ¬c.gen=0:=by have:=d.gen.1;omega
 have a5:(c.gen==0)=false:=by simpa using S
 clear a P r;rw[<-f,m];go_enter func412,ntmps412;go_wp2_with fail;refine zb (dM _ d.now) λw1 s=>?_
 have t:=ai (ak w _) s;have p:=zh (ab (Nu w _) s);have T:=H.below t;obtain⟨c0,u,x,y,A,B,C,D,E,F,I,J⟩:=bQ p;have U:=aa p;go_wp2_with fail;refine zb (rg (n:=c.pn) (l:=c.pl) (by rw[f];exact FR T) d.pol) λa6 K=>?_
 have B2:=ai t K;have L:=zh (ab p K);clear c0 u x y A B C D E F I J U;obtain⟨c0,u,x,y,A,B,C,D,E,F,I,J⟩:=bQ L;have a7:=aa L;go_wp2_with fail;go_loopw [33] (λi wr=> ∃k:Nat,k<=n/\i= .int .i64 k/\Qs (Qr w.heap.size w wr)) (λi _=>n-(intOf i).toNat)
 case atStart=>exact⟨0,Nx _,rfl,B2⟩
 case round=>
  obtain⟨k,a8,rfl,h⟩:=hrel;by_cases M:k<n
  ·have j:k<c.fl.length:=by rw[m];exact M
   obtain⟨g,o,rfl,V,N⟩:=R (λe=>by rw[e] at j;simp at j);have W:=ae (N k j) h;have a9:=No V h.size;obtain⟨O,q⟩:=zx (c.fl.getD k 0);rw[<-q] at W;have X:=zh (show 0<=O/\O<=4611686018427387904 by rw[q];exact d.fl.2 _ (by simp[j]));clear N q;go_wp2_with fail;refine zb (dM _ X) λb0 Y=>?_
   have Z:=ai h Y;go_wp2;go_roundw
   case rel=>exact⟨k+1,M,by go_num,Z⟩
   case measure=>simp[intOf];omega
  ·obtain rfl:k=n:=zo
   go_wp2;go_ret;exact⟨rfl,h⟩
def yI(a:fL w v c)(hq:c.quiet):Qo zP 413 #[v] w (aK w (.bool true)):=by
 have d:=zh a;obtain⟨pv,fv,ov,sv,ev,rfl,a⟩:=a;obtain⟨o,p,rfl,-⟩:=a.s;have j:=zh hq;obtain⟨k,l,e,f,g⟩:=hq;rw[e];rw[f,g];rw[e] at d;rw[f,g] at d;clear a k l e f g;go_enter func413,ntmps413;go_wp2_with fail;refine zb (wo (d.below ze) j) λw1 i=>?_
 have m:=ai (ak w _) i;have n:=zh (ab (Nu w _) i);have h:=n.out;obtain⟨c0,q,r,s,t,u,x,y,A,B,C,D⟩:=bQ h;have E:=aa h;clear h;go_wp2;go_ret;exact⟨rfl,m⟩
def wq(a:fL w v c)(A:Qs c.busy)(a8:c.pl.length<=5):Qo zP 413 #[v] w (aK w (.bool true)):=by
 have Q:=zh a;obtain⟨pv,fv,ov,sv,ev,rfl,a⟩:=a;have H:=zh a;obtain⟨a9,b0,rfl,-⟩:=a.p;obtain⟨b1,b2,rfl,-⟩:=a.o;obtain⟨b3,b4,rfl,Y,Z,R⟩:=a.s;have a0:=zh R;obtain⟨n,E⟩:=zy c.tl.length;have b5:n<=5:=by have:=(aN A.pol).1;rw[E];exact this
 have F:=zh (show c.src.length=n by rw[E];exact A.src.1);rw[F] at Z;obtain⟨m,I⟩:=zy c.pl.length;have a1:1<=c.tn.size:=(fq (df A.pol).1).1;rw[<-I] at a8;clear a Y R;rw[<-E,F,<-I];rw[<-E,F,<-I] at Q H;go_enter func413,ntmps413;go_wp2_with fail;refine zb (te (Q.below ze) a1) λw1 S=>?_
 have T:=ai (ak w _) S;have d:=zh (ab (Nu w _) S);have b6:=H.below T;obtain⟨c0,f,h,j,p,q,r,s,t,u,x,y⟩:=bQ d;have B:=aa d;go_wp2_with fail;clear c0 f h j p q r s t u x y B;go_loopw [25] (λi wr=> ∃k:Nat,k<=n/\i= .int .i64 k/\Qs (Qr w.heap.size w wr)/\Qs (wr.heap[w.heap.size]?=w1.heap[w.heap.size]?)) (λi _=>n-(intOf i).toNat)
 case atStart=>exact⟨0,Nx _,rfl,T,zh rfl⟩
 case round=>
  obtain⟨k,b7,rfl,C,J⟩:=hrel;obtain⟨c0,f,h,j,p,q,r,s,t,u,x,y⟩:=bQ (J.trans d);have B:=aa (J.trans d);by_cases U:k<n
  ·have K:k<c.src.length:=by rw[F];exact U
   obtain⟨g,o,rfl,a2,V⟩:=a0 (λe=>by rw[e] at K;simp at K);have a3:=ae (V k K) C;have b8:=No a2 C.size;obtain⟨M,N⟩:=zx (c.src.getD k 0);rw[<-N] at a3
   have a4:=zh (show 0<=M/\M<=(m:Int)-1 by
    have:=A.src.2 M (by rw[N];simp[K]);rw[<-I] at this;omega)
   clear V N;go_wp2_with fail;refine zb (dM _ a4) λa5 D=>?_
   have O:=ai C D;have L:=zh ((D.block _ B).trans J);clear c0 f h j p q r s t u x y;go_wp2;go_roundw
   case rel=>exact⟨k+1,U,by go_num,O,L⟩
   case measure=>simp[intOf];omega
  ·obtain rfl:k=n:=zo
   have a6:=H.below C;go_wp2_with fail;refine zb (rg (n:=c.tn) (l:=c.tl) (FS a6) A.pol) λb9 W=>?_
   have B2:=ai C W;have P:=zh ((W.block _ B).trans J);clear c0 f h j p q r s t u x y B;obtain⟨c0,f,h,j,p,q,r,s,t,u,x,y⟩:=bQ (P.trans d);have X:=aa (P.trans d);go_wp2_with fail;refine zb (dM _ A.bound) λa5 D=>?_
   have O:=ai B2 D;have L:=zh ((D.block _ X).trans P);clear c0 f h j p q r s t u x y X;obtain⟨c0,f,h,j,p,q,r,s,t,u,x,y⟩:=bQ (L.trans d);have c1:=aa (L.trans d);go_wp2_with fail;refine zb (dM _ A.done) λc2 a7=>?_
   go_wp2;go_ret;exact⟨rfl,ai O a7⟩
def bj.ok(id:Int)(e:bj):Prop:=(0<=e.tier/\e.tier<=9)/\(0<=e.shard/\e.shard<=7)/\(1<=e.id/\e.id<=id)/\0<=e.blk/\e.blk<=4095
def wt{w:Qm}{b:Nat}{T:Qp}{a c d e f g:Qn}(h:w.heap[b]?=some (.cells #[a,c,d,e,f,g] T)):
 w.cell? ⟨b,0,none⟩=some a/\w.cell? ⟨b,1,none⟩=some c/\w.cell? ⟨b,2,none⟩=some d/\w.cell? ⟨b,3,none⟩=some e/\w.cell? ⟨b,4,none⟩=some f/\w.cell? ⟨b,5,none⟩=some g:=by
 refine⟨?_,?_,?_,?_,?_,?_⟩<;>(rw[NA w b _ _ _ _ h];rfl)
def yJ{x:bj}(l:fL w v c)(S:aE w x.bv [x.blk])(T:Qs (x.ok c.id)):Qo zP 414 #[v,x.val] w (aK w (.bool true)):=by
 obtain⟨pv,fv,ov,sv,ev,rfl,l⟩:=l;obtain⟨E,F,⟨U,V⟩,H,I⟩:=id T;obtain⟨W,a,s,-,t,u⟩:=S;obtain⟨g,o,rfl,J,y⟩:=u zm;have d:=y 0 zm;simp only[NR,PQ] at d;clear l y u;unfold bj.val;rw[s];have X:1<=a/\a<=9223372036854775807:=t;have B0:=zh (show Qr w.heap.size w ((w.alloc (.cells #[.int .u64 c.gen,.int .u64 c.id,(c.now:Int),c.pn,pv,fv,c.tn,ov,sv,(c.bound:Int),(c.done:Int),ev] 382)).alloc (.cells #[.int .u64 x.id,(x.tier:Int),(x.shard:Int),(),(1:Int),.slice (some ⟨g,o,none⟩) ([x.blk].length:Nat) a] 338)) from(ak w _).trans (ze.mono zm));have K:=zh d;have d:=ae K B0;have L:=No J B0.size;clear s t;simp only[NS] at*;have A:=zh (ag (w:=w.alloc (.cells #[.int .u64 c.gen,.int .u64 c.id,(c.now:Int),c.pn,pv,fv,c.tn,ov,sv,(c.bound:Int),(c.done:Int),ev] 382)) (o:= .cells #[.int .u64 x.id,(x.tier:Int),(x.shard:Int),(),(1:Int),.slice (some ⟨g,o,none⟩) (1:Nat) a] 338) (b:=w.heap.size+1) zm);have B:=zh (ab (Nu w (.cells #[.int .u64 c.gen,.int .u64 c.id,(c.now:Int),c.pn,pv,fv,c.tn,ov,sv,(c.bound:Int),(c.done:Int),ev] 382)) (ak (w.alloc (.cells #[.int .u64 c.gen,.int .u64 c.id,(c.now:Int),c.pn,pv,fv,c.tn,ov,sv,(c.bound:Int),(c.done:Int),ev] 382)) (.cells #[.int .u64 x.id,(x.tier:Int),(x.shard:Int),(),(1:Int),.slice (some ⟨g,o,none⟩) (1:Nat) a] 338)));go_enter func414,ntmps414;go_wp2_with fail;refine NM 2 ?_;rw[NF];go_wp2_with fail;refine zb (dM _ ⟨H,I⟩) λw1 m=>?_
 have M:=B0.trans (m.mono B0.size);have n:=zh (ab A m);have N:=zh (ab B m);obtain⟨e,f,h,i,j,k⟩:=wt n;have O:=aa n;clear d L A B B0;go_wp2_with fail;rw[NF];go_wp2_with fail;refine zb (dM _ E) λY p=>?_
 have B2:=ai M p;have q:=zh (ab n p);have P:=zh (ab N p);clear e f h i j k O;obtain⟨e,f,h,i,j,k⟩:=wt q;have Q:=aa q;go_wp2_with fail;refine zb (dM _ F) λZ r=>?_
 have R:=ai B2 r;have C:=zh (ab q r);have D:=zh (ab P r);clear e f h i j k Q;obtain⟨e,f,h,i,j,k⟩:=wt C;have a0:=aa C;have a1:=aa D;obtain⟨c0,a2,-⟩:=bQ D;go_wp2;go_ret;exact⟨rfl,R⟩
end
def dR(p:Int×Int):Qn:= .agg #[(p.1:Int),(p.2:Int)]
def nN(x y:Int×Int)(a:dR x=dR y):x=y:=by
 unfold dR at a;injection a with a
 injection a with a
 simp at a;exact Prod.ext a.1 a.2
def FT:Maps.Keyed zP 489:=Maps.Keyed.of_law (deep_law_laid qo (m:=2) zo zv zk (by rw[underlying489]))
def Ba:Maps.Keyed zP 343:=Maps.Keyed.of_law (deep_law_laid qo (m:=2) zo zv zk (by rw[underlying343]))
def rh:zP.cellsOf 489=2:=zk
def tf:zP.cellsOf 343=2:=zk
def FU:zP.keyType 489=true:=zk
def IJ:zP.keyType 343=true:=zk
def IK{p:Int×Int}(g:aQ p.1)(h:aQ p.2): ∃q,keyOf zP 489 (dR p)=some q:=by
 have a:(dR p).formed zP 489=true:=by simp[dR,Value.formed,underlying489,rh]
 obtain⟨m,c⟩:=nh;have d:(Lit.int .i64 p.1).wf=true:=by unfold aQ at g;simp[Lit.wf,IntKind.bits,IntKind.signed,IntKind.min,IntKind.max];omega
 have e:(Lit.int .i64 p.2).wf=true:=by unfold aQ at h;simp[Lit.wf,IntKind.bits,IntKind.signed,IntKind.min,IntKind.max];omega
 unfold keyOf;simp only[underlying489,FU,a,Bool.and_self,if_true]
 have f:zP.keyLits (zP.types.size+1) 489 (dR p).cells.toList=some [.int .i64 p.1,.int .i64 p.2]:=by
  rw[c];simp[dR,Value.cells,Program.keyLits,underlying489,underlying3,rh,ni,d,e,show List.range 2= [0,1] from rfl]
 rw[f];exact⟨_,rfl⟩
def FV{p:Int×Int}(g:aQ p.1)(h:aQ p.2): ∃q,keyOf zP 343 (dR p)=some q:=by
 have a:(dR p).formed zP 343=true:=by simp[dR,Value.formed,underlying343,tf]
 obtain⟨m,c⟩:=nh;have d:(Lit.int .i64 p.1).wf=true:=by unfold aQ at g;simp[Lit.wf,IntKind.bits,IntKind.signed,IntKind.min,IntKind.max];omega
 have e:(Lit.int .i64 p.2).wf=true:=by unfold aQ at h;simp[Lit.wf,IntKind.bits,IntKind.signed,IntKind.min,IntKind.max];omega
 unfold keyOf;simp only[underlying343,IJ,a,Bool.and_self,if_true]
 have f:zP.keyLits (zP.types.size+1) 343 (dR p).cells.toList=some [.int .i64 p.1,.int .i64 p.2]:=by
  rw[c];simp[dR,Value.cells,Program.keyLits,underlying343,underlying3,tf,ni,d,e]
 rw[f];exact⟨_,rfl⟩
structure bI.ents(c:bI):Prop where
 len:c.es.length<=90
 ok: ∀e∈c.es,e.ok c.id
 ps:(c.es.map λe=>(e.tier,e.shard)).Nodup
 bs:(c.es.map λe=>e.blk).Nodup
structure bI.valid(c:bI):Prop where
 plain:c.plain
 chg:c.quiet\/c.busy
 ents:c.ents
def tg{a:Type}(l:List a):(l.map λx=>(x,())).map (·.1)=l:=by rw[Py];exact List.map_id' l
def wu{a c:Type}[DecidableEq a]{l:List (a×c)}{k:a}(v:c)(f:k∉l.map (·.1)):cn l k v=l++ [(k,v)]:=(fP (k:=k) (λp d e=>f (OI.2 ⟨p,d,e⟩))).2.1 v
section
variable{w w' w1:Qm}{c:bI}{v pv fv ov sv ev:Qn}{b:Nat}
def ww(a:fL w v c)(d:c.valid):Qo zP 413 #[v] w (aK w (.bool true)):=by
 rcases d.chg with hq|e
 ·exact yI a hq
 ·exact wq a e (aN d.plain.pol).1
def nO{a:Option Addr}{n k:Nat}{l:List bj}{e:bj}(h:nM w (.slice a n k) l){j:Nat}(i:l[j]?=some e): ∃g o,a=some ⟨g,o,none⟩/\g<w.heap.size/\
 w.cell? ⟨g,o+j*6,none⟩=some (.int .u64 e.id)/\w.cell? ⟨g,o+j*6+1,none⟩=some (.int .i64 e.tier)/\w.cell? ⟨g,o+j*6+2,none⟩=some (.int .i64 e.shard)/\w.cell? ⟨g,o+j*6+3,none⟩=some (.int .i64 0)/\w.cell? ⟨g,o+j*6+4,none⟩=some (.int .i64 1)/\w.cell? ⟨g,o+j*6+5,none⟩=some e.bv:=by
 obtain⟨g,o,d,f,c⟩:=h.1.elem (λ_=>rfl) i;exact⟨g,o,d,f,c 0 _ rfl,c 1 _ rfl,c 2 _ rfl,c 3 _ rfl,c 4 _ rfl,c 5 _ rfl⟩
def yK(j:fL w v c)(l:Qs c.valid):Qo zP 362 #[v] w (aK w (.bool true)):=by
 have T:=zh j;obtain⟨pv,fv,ov,sv,ev,rfl,j⟩:=j;have a5:=zh j.e;obtain⟨h8,h9,rfl,-,-⟩:=j.e.1;obtain⟨n,m⟩:=zy c.es.length;have i0:n<=90:=by rw[m];exact l.ents.len
 rw[<-m] at T a5⊢;have i1:= @run_makeMap zP;have i2:=zi ((90:Int)<(n:Int));clear j;go_enter func362,ntmps362;go_wp2_with fail;refine zb (yH (T.below ze) l.plain) λw1 c1=>?_
 have c2:=ai (ak w _) c1;have U:=zh (ab (Nu w _) c1);obtain⟨c0,r,s,t,u,y,A,C,D,E,F,H⟩:=bQ U;have f0:=aa U;go_wp2_with fail;refine zb (ww (T.below c2) l) λa c3=>?_
 have B2:=ai c2 c3;have I:=zh (ab U c3);clear c0 r s t u y A C D E F H f0 U;obtain⟨c0,r,s,t,u,y,A,C,D,E,F,H⟩:=bQ I;have f1:=aa I;go_wp2_with fail;obtain⟨d,J⟩:=zx a.heap.size;obtain⟨V,K⟩:=zx ((a.alloc (.map #[] 0)).alloc (.map #[] 0));have a6:Qr a.heap.size a V:=by rw[K];exact(ak a _).trans (ze.mono zm)
 have f2:=ai B2 a6;have f3:=zh (ab I a6);have f4:=zh (show bL zP 3 gr eI V d (([]:List Int).map λx=>(x,())) by rw[K,J];exact(bL.new zP 3 gr eI a).below ze)
 have f5:=zh (show bL zP 489 dR eI V (d+1) (([]:List (Int×Int)).map λx=>(x,())) by
  rw[K,J];have:=bL.new zP 489 dR eI (a.alloc (.map #[] 0));simpa using this)
 rw[<-K,<-J];have L:=aa I;rw[<-J] at L;have f6:=zh L;have i3:w.heap.size<=d:=Oc L;clear K J a6 c0 r s t u y A C D E F H f1 L I;go_loopw [29,5] (λi z wr=> ∃k:Nat,k<=n/\i= .int .i64 k/\z= .int .i64 k/\Qs (Qr w.heap.size w wr)/\Qs (wr.heap[w.heap.size]?=V.heap[w.heap.size]?)/\Qs (bL zP 3 gr eI wr d (((c.es.take k).map λe=>e.blk).map λx=>(x,())))/\Qs (bL zP 489 dR eI wr (d+1) (((c.es.take k).map λe=>(e.tier,e.shard)).map λx=>(x,())))) (λi _ _=>n-(intOf i).toNat)
 case atStart=>exact⟨0,Nx _,rfl,rfl,f2,zh rfl,f4,f5⟩
 case round=>
  obtain⟨k,i4,rfl,rfl,f,c4,a7,W⟩:=hrel;have c5:=c4.trans f3;obtain⟨c0,r,s,t,u,y,A,C,D,E,F,H⟩:=bQ c5;have c6:=aa c5;by_cases c7:k<n
  ·have f7:k<c.es.length:=by rw[<-m];exact c7
   obtain⟨e,M⟩: ∃e,c.es[k]?=some e:=⟨_,Np f7⟩;obtain⟨g,o,rfl,i5,c8,c9,d0,d1,d2,a8⟩:=nO (a5.below f) M;have X:=a5.2 e (NO M);have N:=zh (l.ents.ok e (NO M));have O:=zh (show c.es.take (k+1)=c.es.take k++ [e] by rw[OH,M];rfl)
   have a9:=zh (show(e.tier,e.shard)∉(c.es.take k).map λe=>(e.tier,e.shard) by
    have h:=l.ents.ps;rw[<-Po (k+1) c.es,O] at h;simp only[NU,NX] at h;have b0:=(PD.1 h).2.2;exact λb1=>b0 _ b1 _ zm rfl)
   have b2:=zh (show e.blk∉(c.es.take k).map λe=>e.blk by
    have h:=l.ents.bs;rw[<-Po (k+1) c.es,O] at h;simp only[NU,NX] at h;have b0:=(PD.1 h).2.2;exact λb1=>b0 _ b1 _ zm rfl)
   clear M;obtain⟨d3,et,b3,d4,i6⟩:=e;obtain⟨i7,Y,d5,-,d6,d7⟩:=id X;dsimp only at c8 c9 d0 d1 d2 a8 d5 X;subst d5;have d8:=zh X;obtain⟨d9,e0,rfl,f8,e1⟩:=d7 zm;have b4:=e1 0 zm;simp only[NR,PQ] at b4;have f9:=zh b4;have i8:1<=Y/\Y<=9223372036854775807:=d6;simp only[NS] at a8 d8 N O a9 b2;clear X d6 d7 e1 b4;have g0:=zh (IK (p:=(et,b3)) (by have:=N.1;unfold aQ;dsimp only at this⊢;omega) (by have:=N.2.1;unfold aQ;dsimp only at this⊢;omega));have g1:=zh (show aQ d4 by have:=N.2.2.2;unfold aQ;dsimp only at this⊢;omega);have i9:=W.lt;obtain⟨j0,e2⟩:=zy ((c.es.take k).map λe=>e.blk);obtain⟨j1,e3⟩:=zy ((c.es.take k).map λe=>(e.tier,e.shard));rw[<-e2] at a7 b2;rw[<-e3] at W a9;go_wp2_with fail;refine zb (yJ (c:=c) (x:=⟨d3,et,b3,d4,.slice (some ⟨d9,e0,none⟩) (1:Nat) Y⟩) (T.below (f.trans (ze.mono f.size))) (d8.below (f.trans (ze.mono f.size))) N) λj2 e4=>?_
   have P:=ai (ak wr (.cells #[.int .u64 d3,(et:Int),(b3:Int),(),(1:Int),.slice (some ⟨d9,e0,none⟩) (1:Nat) Y] 338)) e4;have b5:=zh (ab (Nu wr _) e4);have b6:=ai f P;have e5:=a7.below P;have g2:=W.below P;have g3:=zh ((P.block _ c6).trans c4);clear P c0 r s t u y A C D E F H c6 c8 c9 d0 d1 d2 a8;obtain⟨Z,a0,a1,a2,a3,a4⟩:=wt b5;have g4:=aa b5;go_wp2_with (refine dt rfl (.tmp 37) (.tmp 44) (.tmp 45) rfl g2 FT nN underlying487 g0.choose_spec () rfl rfl rfl ?_);intro g5 e6 Q
   have g6:=zh (show bL zP 489 dR eI g5 (d+1) (((c.es.take (k+1)).map λe=>(e.tier,e.shard)).map λx=>(x,())) by
    have:=e6.out;rw[wu _ (by rw[tg];exact a9)] at this;rw[O,NU,<-e3,NU];exact this)
   have L:=f6.out;have b7:=Q.out.keep b5 zo;have R:=b6.trans (Q.out.below (B:=w.heap.size) (λq hq=>zo) b6.size);have e7:=e5.ch Q.out zo;have g7:=zh ((Q.out.block _ (by have:=b6.size;have:=e5.lt;omega) zo).trans g3);have g8:=zh (ae f9 R);clear e6 Q Z a0 a1 a2 a3 a4 g4;obtain⟨Z,a0,a1,a2,a3,a4⟩:=wt b7;have g9:=aa b7;have h0:=g8.out;have h1:=No f8 R.size;go_wp2_with fail;refine NM 2 ?_;rw[NF];go_wp2_with (refine dt rfl (.tmp 53) (.tmp 54) (.tmp 55) rfl e7 eM eH underlying323 (gX (gn g1)) () rfl rfl rfl ?_);intro h2 e8 S
   have h3:=zh (show bL zP 3 gr eI h2 d (((c.es.take (k+1)).map λe=>e.blk).map λx=>(x,())) by
    have:=e8.out;rw[wu _ (by rw[tg];exact b2)] at this;rw[O,NU,<-e2,NU];exact this)
   have e9:=S.out.keep b7 zo;have h4:=R.trans (S.out.below (B:=w.heap.size) (λq hq=>zo) R.size);have h5:=g6.ch S.out zo;have h6:=zh ((S.out.block _ (by have:=R.size;have:=e7.lt;omega) zo).trans g7);clear e8 S Z a0 a1 a2 a3 a4 g9 h0 h1;obtain⟨Z,a0,a1,a2,a3,a4⟩:=wt e9;have j3:=aa e9;go_wp2_with fail;rw[NF];go_wp2;go_roundw
   case rel=>exact⟨k+1,c7,by go_num,by go_num,h4,h6,h3,h5⟩
   case measure=>simp[intOf];omega
  ·obtain rfl:k=n:=zo
   have h7:=zh (show c.es.take k=c.es from NC (by rw[m];exact Nt _));have b8:=a7.len underlying323 3;have b9:=W.len underlying487 3;rw[h7] at b8 b9;simp only[OC] at b8 b9;rw[<-m] at b8 b9;go_wp2;go_ret;exact⟨rfl,f⟩
end
def bj.bytes(e:bj):List UInt8:=bc [e.id]++aV 1 [e.tier,e.shard]++aV 2 [1]++aV 2 [e.blk]
def bI.toT(c:bI):ByteArray:=if c.tl= [] then⟨#[]⟩ else dE c.tn c.tl
def bI.head(c:bI):List UInt8:= []++bc [c.gen,c.id]++bd [c.now]++aq (dE c.pn c.pl).size 2++(dE c.pn c.pl).data.toList++bd c.fl++aq c.toT.size 2++c.toT.data.toList++aV 1 c.src++bd [c.bound,c.done]++aV 2 [(c.es.length:Int)]
def bI.bytes(c:bI):List UInt8:=c.head++c.es.flatMap bj.bytes
structure bI.short(c:bI):Prop where
 p: ∀k,k<=c.pl.length->(cQ c.pn (c.pl.take k)).length<=1000
 o: ∀k,k<=c.tl.length->(cQ c.tn (c.tl.take k)).length<=1000
def oI(n:ByteArray)(l:List ah):(dE n l).size=(cQ n l).length:=by show(cQ n l).toArray.size=_;simp
section
variable{w w' w1:Qm}{c:bI}{v pv fv ov sv ev:Qn}{b p:Nat}
def bI.short.pt(a:c.short):(dE c.pn c.pl).size<=1000:=by
 have:=a.p c.pl.length zl;rw[OA] at this;rw[oI];exact this
def bI.short.ot(a:c.short):c.toT.size<=1000:=by
 unfold bI.toT;split
 ·decide
 ·have:=a.o c.tl.length zl
  rw[OA] at this;rw[oI];exact this
def jk{l:List Int}{bs:List UInt8}{e:Int}(k:bw w' p e bs)(d:aE w v l)(n:w.heap.size<=p)(f:Qr w.heap.size w w'):iY w' p v l:=by
 refine⟨d.below f,λh=>?_⟩;obtain⟨a,c,rfl,-,-,i⟩:=d;obtain⟨g,o,rfl,m,-⟩:=i h;exact⟨g,o,_,_,rfl,by have:=f.size;omega,zo,λj=>by have:=k.row j;omega⟩
def jz.alloc_{bs:List UInt8}{e:Int}(a:jz w p b)(h:bw w p e bs)(o:Obj):jz (w.alloc o) p b:=by
 refine⟨by have:=a.1;simp;omega,a.2.1,λc=>a.2.2 ?_⟩;obtain⟨d,f,g⟩:=c;exact⟨d,by rw[<-f];exact(World.cell?_of_block ((ak w o).block p h.lt)).symm,g⟩
def FW{l:List UInt8}{w:Qm}(d:bw w p 0 l):Qo zP 364 #[p] w (aK w (.int .i64 l.length)):=by
 obtain⟨e,a,c⟩:=d;obtain⟨c0,f⟩:=bE a;obtain⟨g,cap,rfl⟩:=az c;have h:=aa a;clear c a;go_enter func364,ntmps364;go_wp2;go_ret;exact⟨rfl,ND _ _⟩
def wx{B:Nat}(d3:cl B w)(l2:B<=w.heap.size)(I:fL w v c)(K:c.valid)(l3:0<=c.id/\c.id<=18446744073709551615)(l4:c.short):Qo zP 301 #[v] w (aK w (.tuple #[.string (aO c.bytes),()])):=by
 have b3:=zh I;have Q:=zh K;have g6:=zh d3;have R:=zh l4;have g7:=zh (show 0<=c.id/\c.id<=18446744073709551615 from l3);have g8:=zh (And.intro K.ents.len (And.intro K.plain.fl.1 (aN K.plain.pol).1))
 have b4:=zh (show(∀x∈c.src,0<=x/\x<256)/\c.src.length<=5/\(0<=c.bound/\c.bound<=4096)/\(0<=c.done/\c.done<=100) by
  have p0:=(aN K.plain.pol).1;rcases K.chg with hq|H
  ·obtain⟨-,-,l5,l6,l7⟩:=hq
   rw[l5,l6,l7];exact⟨zm,zm,zd,zd⟩
  ·exact⟨λx F=>by have:=H.src.2 x F;omega,by rw[H.src.1];exact(aN H.pol).1,H.bound,H.done⟩)
 obtain⟨pv,fv,ov,sv,ev,rfl,I⟩:=I;have L:=zh I;obtain⟨p1,p2,rfl,-,-⟩:=I.e.1;obtain⟨n,a9⟩:=zy c.es.length;have p3:n<=90:=by rw[a9];exact K.ents.len
 rw[<-a9] at b3 L⊢;clear I K d3 l4 l3;go_enter func301,ntmps301;go_wp2_with fail;refine zb (yK (b3.below ze) Q) λw1 g9=>?_
 have d6:=ai (ak w _) g9;have b5:=zh (ab (Nu w _) g9);obtain⟨c0,h,j,l,m,q,r,s,t,u,y,A⟩:=bQ b5;have l8:=aa b5;go_wp2_with fail;refine zb (sH (g6.step (d6.mono l2)) (FR (L.below d6)) Q.plain.pol (λk b6=>by have:=R.p k b6;omega)) λp4 h0=>?_
 have B2:=ai d6 h0;have S:=zh (ab b5 h0);clear c0 h j l m q r s t u y A l8 b5;obtain⟨c0,h,j,l,m,q,r,s,t,u,y,A⟩:=bQ S;have h1:=aa S;go_wp2_with fail;rcases Q.chg with hq|H
 case' inl=>
  have J:=zh (show c.toT=⟨#[]⟩ by unfold bI.toT;rw[NH hq.2.1]);refine zb (wo (b3.below B2) hq) λD b0=>?_
  have T:=ai B2 b0;have E:=zh (ab S b0);clear c0 h j l m q r s t u y A h1 S hq;obtain⟨c0,h,j,l,m,q,r,s,t,u,y,A⟩:=bQ E;have C:=aa E;go_wp2_with fail
 case' inr=>
  have h2:c.toT=dE c.tn c.tl:=by unfold bI.toT;rw[NB (λe=>by have:=(aN H.pol).2.1;rw[e] at this;simp at this)]
  refine zb (te (b3.below B2) (fq (df H.pol).1).1) λp5 b0=>?_
  have b7:=ai B2 b0;have b8:=zh (ab S b0);clear c0 h j l m q r s t u y A h1 S;obtain⟨c0,h,j,l,m,q,r,s,t,u,y,A⟩:=bQ b8;have C:=aa b8;go_wp2_with fail;refine zb (sH (g6.step (b7.mono l2)) (FS (L.below b7)) H.pol (λk b6=>by have:=R.o k b6;omega)) λD h3=>?_
  have T:=ai b7 h3;have E:=zh (ab b8 h3);clear c0 h j l m q r s t u y A C b8 b7 H;obtain⟨c0,h,j,l,m,q,r,s,t,u,y,A⟩:=bQ E;have C:=aa E;have J:=zh h2;clear h2;go_wp2_with fail
 all_goals
  have b9:=ef D;have d7:=ak D (.cells #[(),z0] 215);have U:=T.size;refine(fN D.heap.size _ [c.gen,c.id] [] _ (b9.keep ze) (dv b9 zm rfl (by have:=Q.plain.gen;have:=g7.out;simp;omega)) zm).mono ?_;rintro e p6 ⟨rfl,d,f⟩;have c1:=zh ((d7.alloc d7.size _).trans (f.below (b9.keep ze)));obtain⟨d8,a⟩:=zx ([]++bc [c.gen,c.id]);rw[<-a] at d;have h4:d8.length<=16:=by rw[a];simp[aU]
  have l9:=zh a;have c2:=zh d;have d9:=zh (ab E c1);clear a c0 h j l m q r s t u y A C;obtain⟨c0,h,j,l,m,q,r,s,t,u,y,A⟩:=bQ d9;have C:=aa d9;go_wp2_with fail;refine(fi D.heap.size _ [c.now] d8 _ (c2.keep ze) (bH c2 zm rfl (by have:=Q.plain.now;simp;omega) zm) zu).mono ?_;rintro e p7 ⟨rfl,d,f⟩;have e0:=zh ((c1.alloc c1.size _).trans (f.below (c2.keep ze)));obtain⟨e1,a⟩:=zx (d8++bd [c.now]);rw[<-a] at d;have h5:e1.length<=24:=by rw[a];simp[ca];omega
  have m0:=zh a;have h6:=zh d;have e2:=zh (ab E e0);clear a c0 h j l m q r s t u y A C;obtain⟨c0,h,j,l,m,q,r,s,t,u,y,A⟩:=bQ e2;have C:=aa e2;go_wp2_with fail;refine(sI D.heap.size _ e1 _ h6 (by have:=R.pt;omega) zo).mono ?_;rintro e p8 ⟨rfl,d,f⟩;have c3:=e0.trans f
  try rw[<-J] at d
  obtain⟨e3,a⟩:=zx (e1++aq (dE c.pn c.pl).size 2++(dE c.pn c.pl).data.toList);rw[<-a] at d;have h7:e3.length<=1026:=by rw[a];have:=R.pt;simp[am];omega
  have m1:=zh a;have c4:=zh d;have e4:=zh (ab E c3);clear a c0 h j l m q r s t u y A C;obtain⟨c0,h,j,l,m,q,r,s,t,u,y,A⟩:=bQ e4;have C:=aa e4;go_wp2_with fail;refine(fi D.heap.size fv c.fl e3 _ c4 (jk c4 L.f U (T.trans (c3.mono U))) (by have:=g8.out;omega)).mono ?_;rintro e w7 ⟨rfl,d,f⟩;have e5:=c3.trans (f.below c4);obtain⟨e6,a⟩:=zx (e3++bd c.fl);rw[<-a] at d;have h8:e6.length<=1066:=by rw[a];have:=g8.out;simp[ca];omega
  have m2:=zh a;have h9:=zh d;have e7:=zh (ab E e5);clear a c0 h j l m q r s t u y A C;obtain⟨c0,h,j,l,m,q,r,s,t,u,y,A⟩:=bQ e7;have C:=aa e7;go_wp2_with fail;refine(sI D.heap.size _ e6 _ h9 (by rw[<-J];have:=R.ot;omega) zo).mono ?_;rintro e p9 ⟨rfl,d,f⟩;have c5:=e5.trans f
  try rw[<-J] at d
  obtain⟨e8,a⟩:=zx (e6++aq c.toT.size 2++c.toT.data.toList);rw[<-a] at d;have i0:e8.length<=2068:=by rw[a];have:=R.ot;simp[am];omega
  have m3:=zh a;have c6:=zh d;have e9:=zh (ab E c5);clear a c0 h j l m q r s t u y A C;obtain⟨c0,h,j,l,m,q,r,s,t,u,y,A⟩:=bQ e9;have C:=aa e9;go_wp2_with fail;refine(dC D.heap.size 1 sv c.src e8 _ c6 (jk c6 L.s U (T.trans (c5.mono U))) (.inr (.inr rfl)) b4.1 (by have:=b4.2.1;omega)).mono ?_;rintro e q0 ⟨rfl,d,f⟩;have c7:=c5.trans (f.below c6);obtain⟨f0,a⟩:=zx (e8++aV 1 c.src);rw[<-a] at d;have i1:f0.length<=2073:=by rw[a];have:=b4.2.1;simp[aY];omega
  have m4:=zh a;have c8:=zh d;have f1:=zh (ab E c7);clear a c0 h j l m q r s t u y A C;obtain⟨c0,h,j,l,m,q,r,s,t,u,y,A⟩:=bQ f1;have C:=aa f1;go_wp2_with fail;refine(fi D.heap.size _ [c.bound,c.done] f0 _ (c8.keep ze) (bH c8 zm rfl (by have:=b4.2.2;simp;omega) zm) zu).mono ?_;rintro e q1 ⟨rfl,d,f⟩;have c9:=zh ((c7.alloc c7.size _).trans (f.below (c8.keep ze)));obtain⟨f2,a⟩:=zx (f0++bd [c.bound,c.done]);rw[<-a] at d;have i2:f2.length<=2089:=by rw[a];simp[ca];omega
  have m5:=zh a;have d0:=zh d;have f3:=zh (ab E c9);clear a c0 h j l m q r s t u y A C;obtain⟨c0,h,j,l,m,q,r,s,t,u,y,A⟩:=bQ f3;have C:=aa f3;go_wp2_with fail;refine(dC D.heap.size 2 _ [(n:Int)] f2 _ (d0.keep ze) (bH d0 zm rfl zu zm) (.inr (.inl rfl)) (by intro x F;simp at F;subst F;exact⟨zo,by show(n:Int)<65536;omega⟩) zu).mono ?_;rintro e q2 ⟨rfl,d,f⟩;have d1:=zh ((c9.alloc c9.size _).trans (f.below (d0.keep ze)));obtain⟨N,a⟩:=zx (f2++aV 2 [(n:Int)]);rw[<-a] at d;have i3:N.length<=2091:=by rw[a];simp[aY];omega
  have m6:=zh a;have i4:=zh d;have i5:=zh (ab E d1);clear a c0 h j l m q r s t u y A C;obtain⟨c0,h,j,l,m,q,r,s,t,u,y,A⟩:=bQ i5;have C:=aa i5;go_wp2_with fail;obtain⟨p,i6⟩:=zy D.heap.size;obtain⟨q3,m7⟩:=zx N;rw[<-i6] at i4 d1⊢;have m8:=d1.size;rw[<-i6] at U m8;have f4:=zh U;clear c0 h j l m q r s t u y A C m7 d9 e2 e4 e7 e9 f1 f3 b9 c2 h6 c4 h9 c6 c8 d0 d7 c1 e0 c3 e5 c5 c7 c9;go_loopw [61] (λi wr=> ∃k:Nat,k<=n/\i= .int .i64 k/\Qs (bw wr p 0 (N++(c.es.take k).flatMap bj.bytes))/\Qs (Qr p D wr)/\Qs (((c.es.take k).flatMap bj.bytes).length=14*k)) (λi _=>n-(intOf i).toNat)
  case atStart=>exact⟨0,Nx _,rfl,zh (by have I:bw _ _ _ _:=i4;simpa using I),d1,zh zm⟩
  case round=>
   obtain⟨k,b6,rfl,O,i7,V⟩:=hrel;have d2:=T.trans (i7.mono f4);by_cases i8:k<n
   ·have m9:k<c.es.length:=by rw[<-a9];exact i8
    obtain⟨e,b1⟩: ∃e,c.es[k]?=some e:=⟨_,Np m9⟩;obtain⟨g,o,rfl,d3,i9,j0,j1,j2,j3,f5⟩:=nO (L.e.below d2) b1;have f6:=zh (L.e.2 e (NO b1));have P:=zh (Q.ents.ok e (NO b1))
    have d4:=zh (show(c.es.take (k+1)).flatMap bj.bytes=(c.es.take k).flatMap bj.bytes++e.bytes by
     rw[OH,b1,NK];simp)
    obtain⟨W,et,X,j4,q4⟩:=e;obtain⟨d5,Y,j5,-,j6,-⟩:=id f6;dsimp only at i9 j0 j1 j2 j3 f5 j5;subst j5;simp only[NS] at f5 f6 P d4;have q5:1<=Y/\Y<=9223372036854775807:=j6;obtain⟨j7,j8⟩:=zx ((c.es.take k).flatMap bj.bytes);rw[<-j8] at O V d4;have f7:(N++j7).length<=2091+14*90:=by rw[Nw,V];omega
    obtain⟨M,f8⟩:=zx (N++j7);rw[<-f8] at O f7;have n0:=zh f8;have q6:=zh d2;have n1:=zh (Nu wr (.cells #[.int .u64 W,(et:Int),(X:Int),(),(1:Int),.slice d5 (1:Nat) Y] 338));have Z:=O.keep (ak wr (.cells #[.int .u64 W,(et:Int),(X:Int),(),(1:Int),.slice d5 (1:Nat) Y] 338));have n2:=O.lt;have n3:=zh (i7.alloc (by have:=n2;omega) (.cells #[.int .u64 W,(et:Int),(X:Int),(),(1:Int),.slice d5 (1:Nat) Y] 338));have j9:=zh (jz.new O (.cells #[.int .u64 W,(et:Int),(X:Int),(),(1:Int),.slice d5 (1:Nat) Y] 338));have k0:=zh f7;have n4:=zh V.out;clear b1 j6 d2 j8 f8 f7 V h4 h5 h7 h8 i0 i1 i2 i3;go_wp2_with fail;clear i9 j0 j1 j2 j3 f5 d3;refine(fN p _ [W] M _ (Z.keep ze) (dv Z zm rfl (by have:=P.2.2.1;have:=g7.out;simp at*;omega)) (by have:=k0.out;simp;omega)).mono ?_;rintro x q7 ⟨rfl,d,f⟩;have k1:=zh ((j9.alloc_ Z _).step f);have f9:=zh (((j9.alloc_ Z _).heap f).trans (ab n1 ze));have n5:=zh ((n3.alloc (Oc Z.lt) _).trans (f.below (Z.keep ze)));obtain⟨g0,a⟩:=zx (M++bc [W]);rw[<-a] at d;have k2:=zh (show g0.length<=3400 by rw[a];have:=k0.out;simp[aU,aY];omega);have n6:=zh a;have a0:=zh d;clear a;obtain⟨a1,a2,a3,a4,a5,a6⟩:=wt f9;have a7:=aa f9;go_wp2_with fail;refine(dC p 1 _ [et,X] g0 _ (a0.keep ze) (bH a0 zm rfl (by have:=P.1;have:=P.2.1;simp at*;omega) zm) (.inr (.inr rfl)) (by have:=P.1;have:=P.2.1;intro x F;simp at F;unfold rQ;simp at*;omega) (by have:=k2.out;simp;omega)).mono ?_;rintro x q8 ⟨rfl,d,f⟩;have k3:=zh ((k1.alloc_ a0 _).step f);have g1:=zh (((k1.alloc_ a0 _).heap f).trans (ab f9 ze));have n7:=zh ((n5.alloc (Oc a0.lt) _).trans (f.below (a0.keep ze)));obtain⟨g2,a⟩:=zx (g0++aV 1 [et,X]);rw[<-a] at d;have k4:=zh (show g2.length<=3410 by rw[a];have:=k2.out;simp[aU,aY];omega);have n8:=zh a;have a8:=zh d;clear a;clear a1 a2 a3 a4 a5 a6 a7;obtain⟨a1,a2,a3,a4,a5,a6⟩:=wt g1;have a7:=aa g1;go_wp2_with fail;refine(dC p 2 _ [(1:Int)] g2 _ (a8.keep ze) (bH a8 zm rfl zm zm) (.inr (.inl rfl)) (by intro x F;simp at F;subst F;decide) (by have:=k4.out;simp;omega)).mono ?_;rintro x q9 ⟨rfl,d,f⟩;have k5:=zh ((k3.alloc_ a8 _).step f);have g3:=zh (((k3.alloc_ a8 _).heap f).trans (ab g1 ze));have k6:=zh ((n7.alloc (Oc a8.lt) _).trans (f.below (a8.keep ze)));obtain⟨g4,a⟩:=zx (g2++aV 2 [(1:Int)]);rw[<-a] at d;have k7:=zh (show g4.length<=3420 by rw[a];have:=k4.out;simp[aU,aY];omega);have n9:=zh a;have g5:=zh d;clear a;clear a1 a2 a3 a4 a5 a6 a7;obtain⟨a1,a2,a3,a4,a5,a6⟩:=wt g3;have a7:=aa g3;go_wp2_with fail;refine(dC p 2 _ [j4] g4 _ g5 (jk g5 f6 f4 (T.trans (k6.mono f4))) (.inr (.inl rfl)) (by have:=P.2.2.2;intro x F;simp at F;subst F;unfold rQ;simp at*;omega) (by have:=k7.out;simp;omega)).mono ?_;rintro x r0 ⟨rfl,d,f⟩;have r1:=k5.step f;have k8:=zh ((k5.heap f).trans g3);have o0:=k6.trans (f.below g5);obtain⟨k9,a⟩:=zx (g4++aV 2 [j4]);rw[<-a] at d;have r2:=zh (show k9.length<=3430 by rw[a];have:=k7.out;simp[aU,aY];omega);have o1:=zh a;have o2:=zh d;clear a;clear a1 a2 a3 a4 a5 a6 a7;obtain⟨a1,a2,a3,a4,a5,a6⟩:=wt k8;have a7:=aa k8;go_wp2;go_roundw
    case rel=>
     have o3:N++(c.es.take (k+1)).flatMap bj.bytes=k9:=by rw[d4,<-NX,<-n0,o1,n9,n8,n6];simp[bj.bytes,NX]
     exact⟨k+1,i8,by go_num,zh (by rw[o3];exact o2),o0,zh (by rw[d4,Nw,n4];simp[bj.bytes,aU,aY];omega)⟩
    case measure=>simp[intOf];omega
   ·obtain rfl:k=n:=zo
    have J:=zh (show N++(c.es.take k).flatMap bj.bytes=c.bytes by
     rw[NC (by rw[<-a9];exact Nt _),m6,m5,m4,m3,m2,m1,m0,l9];unfold bI.bytes bI.head;rw[<-a9])
    have o4:c.bytes.length<=2091+14*90:=by rw[<-J,Nw,V];omega
    have b2:=O.out;rw[J] at b2;have b2:=zh b2;obtain⟨o5,l0⟩:=zx c.bytes.length;have r3:=zi ((40000:Int)<(o5:Int));have o6:=zh l0;clear o4 l0 J V O h4 h5 h7 h8 i0 i1 i2 i3;go_wp2_with fail;refine zb (FW b2) λr4 l1=>?_
    rw[<-o6];have o7:=b2.keep l1;have o8:=ai d2 l1;go_wp2_with fail;refine zb (fh _ _ _ o7) λr5 o9=>?_
    go_wp2;go_ret2;exact⟨rfl,ai o8 o9⟩
end
end Go.Proofs.YtdflhgceeloijaaGreatDoor
