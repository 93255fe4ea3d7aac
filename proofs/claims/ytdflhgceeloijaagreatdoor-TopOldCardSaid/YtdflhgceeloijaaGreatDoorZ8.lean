import Derived.Test.YtdflhgceeloijaaGreatDoorZ1
import Derived.Test.YtdflhgceeloijaaGreatDoorZ3
import Derived.Test.YtdflhgceeloijaaGreatDoorZ4
import Derived.Test.YtdflhgceeloijaaGreatDoorZ5
import Derived.Test.YtdflhgceeloijaaGreatDoorZ6
import Derived.Test.YtdflhgceeloijaaGreatDoorZ7
import Derived.Deep.DeepCutAuto
import Derived.Laws.StructEq
set_option linter.all false
set_option maxRecDepth 100000
set_option maxHeartbeats 16000000
namespace Go.Proofs.YtdflhgceeloijaaGreatDoor
open Go Go.RowKit Tryz
open Tryz renaming prog→zP
open Go renaming World→Qm,Value→Qn,Calls→Qo,TypeId→Qp,Ending→Qq
open Go.RowKit renaming Below→Qr,Hid→Qs
section
variable{w w' w1 wk:Qm}{q:Nat}{rest:List Qn}{T:Qp}{S S' S1:aM}{st:au}{b:SB}{n:Int}{s:kZ}{ys:List cx}{ps:List ((Int×Int)×PP)}
def DG.sw{d:DV}{s:SV}(e:DG d n)(g:s.may)(h:0<=s.gen):d.sw s=((d.spent.flushed.spent.put (s.gen%2) (hA s)).spent.flushed,0)/\DG (d.spent.flushed.spent.put (s.gen%2) (hA s)).spent.flushed (n+3):=by
 have a:=e.after;have c:=a.next (s.gen%2) (hA s);have f:=a.write (k:=s.gen%2) (s:=hA s) zo (so s);refine⟨?_,c.after.mono zo⟩;unfold DV.sw;rw[NH g,e.flush];dsimp only;rw[f];dsimp only;rw[c.flush];simp
def bz.setl{t:Nat}{G:LV}(c:bz w q rest T S w1 S1)(n:w1.heap[t]?=some (.cells #[S1.dp,(G.frm:Int),(G.n:Int),.int .u64 G.gen,(G.used:Int),(G.recs:Int),(G.bad:Int)] 220))(o:w.heap.size<=t)(r: ¬cL w1 S1.dp t)(hq:t≠q)(s: ¬S1.V.own S1.bk t)(u: ¬S1.still t):
 bz w q rest T S (w1.setCell ⟨q,12,none⟩ (.pointer (some ⟨t,0,none⟩))) {S1 with lg:=some (t,G)}:=by
 have f:Ch (·=q) w1 (w1.setCell ⟨q,12,none⟩ (.pointer (some ⟨t,0,none⟩))):=aP (Ch.refl _ _) (.inl rfl);obtain⟨m,j⟩:=c.at_.disk.ch_ c.at_.keep f (λk a e=>c.at_.nd k (.inl e) a);have i: ∀k,k≠q->(w1.setCell ⟨q,12,none⟩ (.pointer (some ⟨t,0,none⟩))).heap[k]?=w1.heap[k]?:=λk a=>af _ a
 have g: ∀k,aM.logb {S1 with lg:=some (t,G)} k->k=t:=λk ⟨x,d,e⟩=>by
  have d:some (t,G)=some x:=d;injection d with d
  rw[e,<-d]
 refine⟨⟨by rw[al c.at_.blk,NN];rfl,m,c.at_.keep,c.at_.led.step λk a=>i k (c.at_.nq k (.inl a)),c.at_.mp.step (i _ (c.at_.nq _ (.inr (.inl (.inl rfl))))),λp h=>⟨(c.at_.rows p h).1.ch f λk a=>c.at_.nq k (.inr (.inl (.inr ⟨p,h,.inl a⟩))),(c.at_.rows p h).2.ch_ f λk a=>c.at_.nq k (.inr (.inl (.inr ⟨p,h,.inr a⟩)))⟩,λx d=>?_,λk a e=>?_,λk a=>?_,λk a e=>?_,λk a e=>?_⟩,λk a=>?_,?_⟩
 ·have d:some (t,G)=some x:=d
  injection d with d
  rw[<-d];exact(i t hq).trans n
 ·have e:=(j k).1 e
  rcases a with a|a|a|a
  ·exact c.at_.nd k (.inl a) e
  ·exact c.at_.nd k (.inr (.inl a)) e
  ·exact c.at_.nd k (.inr (.inr (.inl a))) e
  ·rw[g k a] at e;exact r e
 ·rcases a with a|a|a
  ·exact c.at_.nq k (.inl a)
  ·exact c.at_.nq k (.inr (.inl a))
  ·rw[g k a];exact hq
 ·rcases a with a|a
  ·exact c.at_.nl k (.inl a) e
  ·rw[g k a] at e;exact s e
 ·rw[g k a] at e;exact u e
 ·rcases a with a|a|a|a
  ·exact .inl (.inl a)
  ·exact c.own k (.inr (.inl ((j k).1 a)))
  ·exact c.own k (.inr (.inr (.inl a)))
  ·rw[g k a];exact .inr o
 ·exact⟨f.os.trans c.ch.os,f.tape.trans c.ch.tape,f.output.trans c.ch.output,Nq c.ch.size f.size,λk a l=>(f.block k (No a c.ch.size) λe=>l (.inl e)).trans (c.ch.block k a l)⟩
def yS{j:Nat}{v:Qn}(d:aD v j):v.ownBlock=some j:=by
 cases v with
 |slice a m c=>
  cases a with
  |none=>exact d.elim
  |some a=>obtain⟨-,e⟩:=d;show some a.block=some j;rw[e]
 |_=>exact d.elim
def fC{B j:Nat}{v:Qn}(g:iX B v)(d:aD v j):B<=j:=by
 cases v with
 |slice a m c=>
  cases a with
  |none=>exact d.elim
  |some a=>
   obtain⟨f,h,i⟩:=a;obtain⟨-,e⟩:=d;have e:f=j:=e;rw[<-e];exact g _ _ _ _ _ rfl
 |_=>exact d.elim
def cC(S:aM)(st:au):List UInt8:=(gI st (S.gen+1) (bm S st).id (bm S st).out).bytes
def er(S:aM)(st:au):DV:=(pB (bm S st).d (if (S.gen+1)%2=1 then 18 else 28) (ii (lH (cC S st))) (kO (cC S st))).spent.flushed
def dz(S:aM)(st:au):DV:=((er S st).sw ⟨S.gen+1,90,(cC S st).length⟩).1
def ux(w:Qm)(q:Nat)(rest:List Qn)(T:Qp)(S:aM)(st:au)(e:Qq)(w':Qm):Prop:=
 e= .returned (.int .i64 0)/\ ∃(L:List aA) (V:dn) (m l t c:Nat),Qs (bz w q rest T S w' {S with gen:=S.gen+1,id:=(bm S st).id,ps:=L,pm:=m,bk:=l,V:=V,c:=c,d:=dz S st,lg:=some (t,LV.new 2 16 (S.gen+1))})/\L.map aA.pp=(bm S st).out/\V.pure=hR (bm S st).out/\c<=S.c+31/\w.heap.size<=t/\w.heap.size<=m/\Qs (∀p∈L,∀j,aD p.rv j\/aD p.bv j->S.still j\/w.heap.size<=j)
structure ij(S:aM)(st:au)(n:Int):Prop where
 ok:st.ok
 full:st.full
 now:aQ st.τ.r.now
 dg:DG S.d n\/(rY S.d/\ ∀(k:Nat) (y:cx),(cA st)[k]?=some y->bf (nT S) (y.1,y.2.1)≠none)
 n:n<=900000000
 steps: ∀k y,(cA st)[k]?=some y->(aQ y.1/\aQ y.2.1)/\y.2.2.good/\rZ (nT S) (dq S st k) y
 len:(cA st).length<=20
 c:S.c<=900000
 gen:0<=S.gen/\S.gen<=1000000
 id:0<=(bm S st).id/\(bm S st).id<=1000000
 valid:(gI st (S.gen+1) (bm S st).id (bm S st).out).valid
 short:(gI st (S.gen+1) (bm S st).id (bm S st).out).short
 bytes:(gI st (S.gen+1) (bm S st).id (bm S st).out).bytes.length<=2560
 take: ∀k p,(bm S st).out[k]?=some p->iw (hR ((bm S st).out.take k)) (fZ p.2.1) [p.2.2.2.1]
def dZ.any(a:dZ S st n):ij S st n:=⟨a.ok,a.full,a.now,.inl a.dg,a.n,a.steps,a.len,a.c,a.gen,a.id,a.valid,a.short,a.bytes,a.take⟩
def rp{ps:List ((Int×Int)×PP)}{s:kZ}{ys:List cx}(c: ∀(k:Nat) (y:cx),ys[k]?=some y->bf ps (y.1,y.2.1)≠none): ∀k,k<=ys.length->(kf ps s ys k).d=s.d
 |0,_=>by simp[kf]
 |k+1,d=>by
  obtain⟨y,a⟩: ∃y,ys[k]?=some y:=⟨_,Np zo⟩;rw[kE a];refine Eq.trans ?_ (rp c k zo);unfold bY;cases h2:bf ps (y.1,y.2.1) with
  |none=>exact absurd h2 (c k y a)
  |some x=>rfl
def yT(w:Qm)(q:Nat)(rest:List Qn)(T:Qp)(S:aM)(st:au)(e:Qq)(w':Qm):Prop:=
 e= .returned (.int .i64 14)/\ ∃S',bz w q rest T S w' S'/\S'.d=S.d/\S'.dp=S.dp/\S'.B=S.B/\S'.c<=S.c+31/\S'.gen=S.gen/\S'.bad=S.bad
def tj{B:Nat}(j0:cl B w)(J2:Qs (B<=w.heap.size))(l8:Qs (bJ w b st))(H:Qs (bD w q rest T S))(H8:Qs (∀k,b.own k-> ¬(S.ext q k\/cL w S.dp k)))(H9:Qs (∀k,S.fr w q k->B<=k))(J:Qs (ij S st n)):
 Qo zP 182 #[q,b.s] w (λe w'=>(DG S.d n/\ux w q rest T S st e w')\/(rY S.d/\yT w q rest T S st e w')):=by
 have v0:=zh j0;clear j0;go_enter func182,ntmps182;go_wp2_with fail;refine(wz l8 J.ok J.full).mono ?_;rintro e w1 ⟨u,v1,rfl,b1,v2,l9⟩;obtain⟨D2,D3,rfl⟩:=az b1;have a6:=zh l9;have m0:=aB.own b1;have D4:=zh v2;obtain⟨e1,i7⟩:=zx v1.length;have f7:=zh (And.intro i7 (i7.trans v2.len));have e2:=zh (show e1<=20 by have:=f7.2;have:=J.len;omega);have m1:=zh (show∀j,w.heap.size<=j-> ¬S.fr w1 q j from λj h e=>by have:=H.fr_lt (H.fr_below l9 e);omega);have i8:=H.below l9;rw[<-i7] at m0⊢;clear i7;have m2:=e2.out;go_wp2_with fail;go_loopw [5,18] (λv i wk=> ∃(k:Nat) (L:List aA) (V:dn),k<=e1/\i= .int .i64 k/\Qs (L.length=k)/\Qs (ro w1 q rest T S (dq S st k) v wk L V)/\Qs (∀p∈L,∀j,aD p.rv j\/aD p.bv j->S.still j\/w.heap.size<=j)) (λ_ i _=>e1-(intOf i).toNat)
 case atStart=>exact⟨0,[],S.V,Nx _,rfl,zh rfl,zh (Gg i8),zh (λp r=>by cases r)⟩
 case round=>
  obtain⟨k,L,V,D5,rfl,f8,b5,m3⟩:=hrel;obtain⟨va,vc,rfl⟩:=az b5.own;by_cases f9:k<e1
  ·have b6:=zh f9
   obtain⟨y,b2⟩: ∃y,(cA st)[k]?=some y:=⟨_,Np (by rw[<-f7.2];exact f9)⟩;obtain⟨p,r,D6⟩:=D4.get b2;obtain⟨m4,v3,a1⟩:=J.steps k y b2;have v4:=zh b2;have D7:=zh m4;have D8:=zh v3;have D9:=zh a1;have v5:aB 7 dS.cells wr (.slice D2 e1 D3) v1:=m0.1.ch b5.tto.ch λj h=>m1 j (fC m0.2 h)
   obtain⟨I0,E,sh,E0,I1⟩:=p;obtain⟨I2,I3,U⟩:=y;obtain⟨g0,i9,v6,v7,m5⟩:=D6;dsimp only at g0 i9 v6 v7 m5 m4;subst g0 i9 v6 v7;have c4:=aB.own (l:= [U]) (enc:=ay.cells) (k:=7) (by simpa using m5);obtain⟨a7,rc,rfl,-⟩:=id c4.1;have E1:=c4.1.ch b5.tto.ch λj h=>m1 j (fC c4.2 h)
   have v8:=zh (show∀j,aD (.slice a7 (1:Nat) rc) j-> ¬(S.sv (dq S st k) V).fr wr q j/\j<w1.heap.size from λj h=>⟨(b5.tto.out_ (jl c4.1 h) (m1 j (fC c4.2 h))).2,jl c4.1 h⟩);have E2:=zh (show∀j,aD (.slice a7 (1:Nat) rc) j->w.heap.size<=j from λj h=>fC c4.2 h);obtain⟨I4,go,rfl,j0,a2⟩:=v5.elem (λ_=>rfl) r;have m6:=a2 0 _ rfl;simp only[NR] at m6;have v9:=a2 1 _ rfl;have w2:=a2 2 _ rfl;have w3:=a2 3 _ rfl;have w4:=a2 4 _ rfl;have w5:=a2 5 _ rfl;have w6:=a2 6 _ rfl;dsimp only at m6 v9 w2 w3 w4 w5 w6;simp only[NS] at*;clear b2 r m4 v3 a1 v5 m5 c4 a2;go_wp2_with fail;obtain⟨m7,j1⟩:=zx wr.heap.size;obtain⟨I,c5⟩:=zx (wr.alloc (.cells #[.int .u64 0,(E:Int),(sh:Int),(),(1:Int),z0,.slice a7 (1:Nat) rc] 340));have j2:I.heap[m7]?=some (.cells #[.int .u64 0,(E:Int),(sh:Int),(),(1:Int),z0,.slice a7 (1:Nat) rc] 340):=by rw[c5,j1];exact Nu _ _
   have g1:Qr wr.heap.size wr I:=by rw[c5];exact ak _ _
   have j3:=zh j2;have m8:=b5.fresh g1;have w8:=E1.below g1;obtain⟨A,O⟩:=zx (S.sv (dq S st k) V:aM)
   have E3:=zh (show¬A.fr I q m7 from λe=>by
    have g0:=b5.tto.at_.fr_below g1 (by rw[O] at e;exact e);have:=b5.tto.at_.fr_lt g0;omega)
   have w9:=zh (show∀j,aD (.slice a7 (1:Nat) rc) j-> ¬A.fr I q j/\j<w1.heap.size from λj h=>⟨λe=>(v8 j h).1 (b5.tto.at_.fr_below g1 (by rw[O] at e;exact e)),(v8 j h).2⟩);have b7:=zh (show bD I q rest T A by rw[O];exact m8.tto.at_);have x0:A.pm=S.pm/\A.ps=S.ps:=by rw[O];exact⟨rfl,rfl⟩
   have P:=zh O;have I5:=zh j1;rw[<-c5,<-j1];obtain⟨m9,n0,n1,n2,n3,n4,n5,n6,j4,n7,j5,n8,n9,o0⟩:=b7.cells;have j6:=aa b7.blk;obtain⟨e3,e4,e5,e6,e7,e8,e9⟩:=dT j2;have f0:=aa j2
   have f1:=zh (show∀D,Qr I.heap.size I D->(Instr.lookup 76 (.map (some A.pm)) (.agg #[(E:Int),(sh:Int)]) true).run zP D= .ok (hC (.agg #[.int .u64 0,(),(),(),(),z0,z0]) aA.val true (bf (S.ps.map λp=>(p.key,p)) (E,sh))) D from λD d5=>by
    have:=Dc (y:=(E,sh,U)) (b7.below d5) D7;rw[x0.2] at this;exact this)
   have o1:bf (nT S) (E,sh)=(bf (S.ps.map λp=>(p.key,p)) (E,sh)).map aA.pp:=by
    have:=iP (f:=aA.pp) (S.ps.map λp=>(p.key,p)) (E,sh);rw[<-this,Py];rfl
   clear m6 v9 w2 w3 w4 w5 w6 j0 j1 c5 j2 g1 x0 O m9 n0 n1 n2 n3 n4 n5 n6 j4 n7 n8 n9 o0;have a1:=D9.out;unfold rZ at a1;dsimp only at a1;have g2:=kE (ps:=nT S) (s:=Gh S) v4;unfold bY at g2;dsimp only at g2;rw[o1] at a1 g2;have j7:=zh g2;have E4:=zh o1;clear o1 g2;cases hlk:bf (S.ps.map λp=>(p.key,p)) (E,sh) with
   |none=>
    rw[hlk] at f1 j7 a1;have Y:=zh a1;have g3:=zh (show∀D,Qr I.heap.size I D->(Instr.lookup 76 (.map (some A.pm)) (.agg #[(E:Int),(sh:Int)]) true).run zP D= .ok (.tuple #[.agg #[.int .u64 0,(),(),(),(),z0,z0],false]) D from f1);have E5:=zh (J.dg.elim id λW=>absurd (E4.trans (by rw[hlk];rfl)) (W.2 k _ v4));clear a1 hlk f1;have j8:=g3 I.drew zr.drew;have j9:=g3 (I.alloc (.cells #[.int .u64 0,(),(),(),(),z0,z0] 340)).drew ze.drew;have o2:=λo=>ad (o:=o) j3
    go_region
    all_goals
     obtain⟨b3,c6⟩:=zx ((I.alloc (.cells #[.int .u64 0,(),(),(),(),z0,z0] 340)).drew);have d6:=zh (show Qr I.heap.size I b3 by rw[c6];exact ze.drew);rw[<-c6];have c7:=m8.fresh d6;have g4:=zh (ab j3 d6);have g5:=w8.below d6;have E6:=b7.below d6;have I6:=zh (show¬A.fr b3 q m7 from λe=>E3 (b7.fr_below d6 e));have k0:=zh (show∀j,aD (.slice a7 (1:Nat) rc) j-> ¬A.fr b3 q j/\j<w1.heap.size from λj h=>⟨λe=>(w9 j h).1 (b7.fr_below d6 e),(w9 j h).2⟩);clear j9 j8 o2 j5 j6 e3 e4 e5 e6 e7 e8 e9 f0 c6;obtain⟨e3,e4,e5,e6,e7,e8,e9⟩:=dT g4;have f0:=aa g4;go_wp2_with fail;have o3:=Y.sz;have k1:=pD (ps:=nT S) (s:=Gh S) (ys:=cA st) E5 k (by have:=f7.2;have:=b6.out;omega);have X:A.d=(dq S st k).d/\A.id=(dq S st k).id/\A.c=(dq S st k).c/\A.V.pure=(dq S st k).p:=by rw[P];exact⟨rfl,rfl,rfl,c7.pure⟩
     have E7:=e2.out;have f9:=b6.out;have k2:DG A.d 900000100:=by rw[X.1];exact k1.mono (by have:=J.n;omega)
     have g6:=yR (ps:=nT S) (s:=Gh S) (ys:=cA st) k (by have:=f7.2;omega)
     have k3:A.d.write (eZ (dq S st k).p) (aO (fs (A.id+1) E sh 0 1 [U]))=(A.d.spent.put (eZ (dq S st k).p) (oL ((dq S st k).id+1) (E,sh,U)),0):=by
      rw[X.2.1];exact k2.write Y.kb o3
     have o4:=yQ (tier:=E) (shard:=sh) (k:=eZ (dq S st k).p) E6 g5 (λj h=>(k0 j h).1) D8 (by rw[X.2.1];exact Y.id) (by rw[X.2.1];exact Y.seg) (by rw[X.2.2.2];exact Y.h0) (by rw[X.2.2.2];exact Y.h1) (by rw[X.2.2.2];exact Y.h2) (by rw[X.2.2.2];exact Y.h3) (by rw[X.2.2.2];exact Y.h4) 52 zd (by rw[X.2.2.2];exact Y.k) (by have:=Y.kb;unfold aQ;omega) (by rw[k3]) (by rw[k3];exact(k2.next _ _).keep) (by have:=k2.writes;omega) (by rw[X.2.2.1];have:(dq S st k).c<=S.c+k:=g6;have:=J.c;omega) (by rw[X.2.1];have:(aO (fs ((dq S st k).id+1) E sh 0 1 [U])).size=256:=o3;omega);rw[k3] at o4;have x1:=zh X;refine o4.mono ?_;clear o4 k3 g6 k2 f9 E7 X k1 o3;rintro e b8 ⟨E0,g7,rfl,k4,x2,o5,k5⟩;obtain⟨K,M,rfl,-⟩:=id o5;obtain⟨k6,f2⟩:=zx (eZ (dq S st k).p);obtain⟨b9,g8⟩:=zx (⟨A.id+1,E,sh,k6,U,.slice K (1:Nat) M,.slice a7 (1:Nat) rc⟩:aA)
     have x3:=c7.turn (s':={oM (dq S st k) (E,sh,U) with out:=(dq S st k).out}) (V':=g7) (by
      have C:=k4;rw[P] at C;exact C) (by rw[x2,x1.2.2.2];rfl) rfl
     have x4:=g5.ch k4.ch λj h=>(k0 j h).1
     have o6: ∀g,(Value.slice va L.length vc).ownBlock=some g->w1.heap.size<=g/\g<b3.heap.size:=λg x5=>⟨(ar c7.own x5).1,(ar c7.own x5).2.1⟩
     have x6:({A with id:=A.id+1,V:=g7,c:=A.c+1,d:=A.d.spent.put k6 (oL ((dq S st k).id+1) (E,sh,U))}:aM)=S.sv {oM (dq S st k) (E,sh,U) with out:=(dq S st k).out} g7:=by rw[P,f2];rfl
     have x7: ∀j,aD b9.rv j\/aD b9.bv j-> ¬(S.sv {oM (dq S st k) (E,sh,U) with out:=(dq S st k).out} g7).fr b8 q j/\(Value.slice va L.length vc).ownBlock≠some j:=λj h=>by
      rw[g8] at h;rw[<-x6];rcases h with h|h
      ·refine⟨?_,λe=>?_⟩
       ·rw[f2]
        exact(k4.out_ (jl g5 h) (k0 j h).1).2
       ·have C:=(k0 j h).2
        have N:=(o6 j e).1;omega
      ·refine⟨?_,λe=>?_⟩
       ·rw[f2]
        exact(k5 j h).2
       ·have C:=(k5 j h).1
        have N:=(o6 j e).2;omega
     have b4:=zh x3;have x8:=zh (show aB 7 ay.cells b8 b9.rv [b9.r]/\aE b8 b9.bv [b9.blk] by rw[g8];exact⟨x4,by rw[f2];exact o5⟩);have x9:=zh x7;have E8:=zh (show∀j,aD (.slice K (1:Nat) M) j->w.heap.size<=j from λj h=>by have C:=(k5 j h).1;have N:=c7.tto.ch.size;have c8:=a6.size;omega);obtain⟨o7,o8,o9,p0,p1⟩:=info_parts kD;have E9:=zh f2;obtain⟨k7,p2⟩:=zx A.id;rw[<-p2] at g8⊢;have p3:=zh g8;have F0:=zh p2;have p4:L.length<=20:=by have:=f8.out;omega
     clear x3 x4 o6 x6 x7 k4 x2 o5 k5 g8 f2 p2 e3 e4 e5 e6 e7 e8 e9 f0 m2;simp only[NS] at*;obtain⟨a8,Q⟩:=zy L.length;rw[<-Q] at p4⊢;go_wp2_with (at_builtin;refine bb (enc:=aA.cells) rfl _ _ 333 rfl w1.heap.size 340 o7 _ 88 underlying333 o8 o9 p0 p1 rfl zd _ _ a8 _ [aA.mk (k7+1) E sh k6 U (.slice K (1:Nat) M) (.slice a7 (1:Nat) rc)] rfl (by rw[Q];exact((b4.fresh ze).fresh ze).own) rfl (bC 7 (c:=1) (l:= [aA.mk (k7+1) E sh k6 U (.slice K (1:Nat) M) (.slice a7 (1:Nat) rc)]) (ag zm) rfl ⟨Nt 1,zd⟩) (λ_=>rfl) ?qc1 ?qc2 zd ?qc3 ?_)
     case qc1=>intro x p5 y b2;obtain rfl:=Nz.1 p5;simp only[aA.cells,NL,NJ,Ou] at b2;rcases b2 with rfl|rfl|rfl|rfl|rfl|rfl|rfl<;>rfl
     case qc2=>show(a8+1)*88<140737488355328;omega
     case qc3=>have:=b4.tto.ch.size;simp;omega
     intro p6 p7 b1 g9 h0;have R:=ai (ak b8 (.cells #[.int .u64 (k7+1),(E:Int),(sh:Int),(),(1:Int),.slice K (1:Nat) M,.slice a7 (1:Nat) rc] 340)) (ak _ (.cells #[.int .u64 (k7+1),(E:Int),(sh:Int),(),(1:Int),.slice K (1:Nat) M,.slice a7 (1:Nat) rc] 340));have h1:=b4.fresh R;have h2:=h1.push (p:=b9) (v':=p6) (w7:=p7) i8 (by rw[<-Q,p3];simpa using b1) (by rw[<-Q];exact g9) (by rw[<-Q];exact h0) ⟨x8.1.below R,x8.2.below R⟩ (λj h=>⟨λe=>(x9 j h).1 (b4.tto.at_.fr_below R e),(x9 j h).2⟩)
     have h3:=zh (show({({oM (dq S st k) (E,sh,U) with out:=(dq S st k).out}:kZ) with out:=(dq S st k).out++ [b9.pp]}:kZ)=dq S st (k+1) by
      rw[show dq S st (k+1)=oM (dq S st k) (E,sh,U) from j7,p3,F0,x1.2.1,E9];rfl)
     have p8:=zh h2;obtain⟨F1,F2,rfl⟩:=az b1;clear h1 R h2 b1 g9 h0;have F3:k<=20:=by have C:=b6.out;have N:=e2.out;omega
     go_wp2_with fail;refine⟨⟨k+1,L++ [b9],g7,by have:=b6.out;omega,rfl,zh (by rw[Nw,f8];rfl),zh ?_,zh λp r j h=>?_⟩,by simp only[intOf];have:=b6.out;omega⟩
     ·have N:=p8.out
      rw[h3] at N;exact N
     ·rcases Og.1 r with r|r
      ·exact m3 p r j h
      ·obtain rfl:=Nz.1 r
       rw[p3] at h;exact .inr (h.elim (E2 j) (E8 j))
   |some a3=>
    rw[hlk] at f1 j7 a1
    have h4:a3∈S.ps:=by
     obtain⟨p,r,e⟩:=OI.1 (cy hlk);injection e with g0 i9
     rw[<-i9];exact r
    have p9:A.ps=S.ps:=by rw[P];rfl
    have h5:=b7.rows a3 (by rw[p9];exact h4);have q0:=i8.rows a3 h4;have q1: ∀j,aD a3.rv j\/aD a3.bv j-> ¬A.fr I q j/\j<w1.heap.size:=λj h=>⟨b7.still_fr (.inr ⟨a3,by rw[p9];exact h4,h⟩),gH q0 h⟩
    have y0:a3.r=U:=a1;have q2: ∀j,aD a3.rv j\/aD a3.bv j->S.still j:=λj h=> .inr ⟨a3,h4,h⟩
    have g3:=zh (show∀D,Qr I.heap.size I D->(Instr.lookup 76 (.map (some A.pm)) (.agg #[(E:Int),(sh:Int)]) true).run zP D= .ok (.tuple #[a3.val,true]) D from f1);obtain⟨c9,d0,d1,d7,d2,I7,I8⟩:=a3;dsimp only at h5 q0 q1 y0 q2;subst y0;obtain⟨K,M,rfl,-⟩:=id h5.2;obtain⟨a4,a5,rfl,-⟩:=id h5.1;have y1:=zh h5;have y2:=zh q1;have F4:=zh q2;have j9:=g3 (I.alloc (.cells #[.int .u64 0,(),(),(),(),z0,z0] 340)).drew ze.drew;have j8:=g3 I.drew zr.drew;unfold aA.val at j9 j8;have o2:=λo=>ad (o:=o) j3
    simp only[NS] at*;clear a1 hlk f1 h4 p9 h5 q0 q1 q2;go_region
    all_goals
     obtain⟨F5,R⟩:=zx I.heap.size;obtain⟨b3,c6⟩:=zx ((I.alloc (.cells #[.int .u64 c9,(d0:Int),(d1:Int),(),(1:Int),.slice K (1:Nat) M,.slice a4 (1:Nat) a5] 340)).drew);have d3:Qr I.heap.size I b3:=by rw[c6];exact ze.drew
     have q3:=zh (show b3.heap[F5]?=some (.cells #[.int .u64 c9,(d0:Int),(d1:Int),(),(1:Int),.slice K (1:Nat) M,.slice a4 (1:Nat) a5] 340) by rw[c6,R];exact Nu _ _);rw[<-c6,<-R];have d6:=zh d3;have c7:=m8.fresh d3;have g4:=zh (ab j3 d3);have g5:=w8.below d3;have q4:=zh (show aB 7 ay.cells b3 (.slice a4 (1:Nat) a5) [d2]/\aE b3 (.slice K (1:Nat) M) [d7] from⟨y1.1.below d3,y1.2.below d3⟩);have y3:=zh (show∀j,aD (.slice a4 (1:Nat) a5) j\/aD (.slice K (1:Nat) M) j-> ¬A.fr b3 q j/\j<w1.heap.size from λj h=>⟨λe=>(y2 j h).1 (b7.fr_below d3 e),(y2 j h).2⟩);have p4:L.length<=20:=by have:=f8.out;have:=b6.out;have:=e2.out;omega
     clear j9 j8 o2 j5 j6 e3 e4 e5 e6 e7 e8 e9 f0 d3 c6 m2;obtain⟨a8,Q⟩:=zy L.length;rw[<-Q] at p4⊢;have I9:=zh R;clear R;obtain⟨e3,e4,e5,e6,e7,e8,e9⟩:=dT g4;have f0:=aa g4;obtain⟨c0,q5,q6,q7,q8,q9,r0⟩:=dT q3;have a2:=aa q3;go_wp2_with fail;refine zb (AW (o:=some d2) q4.1 g5) λb8 h6=>?_
     have b4:=c7.fresh h6;have y4:=zh (ab q3 h6);have y5:=zh (show aB 7 ay.cells b8 (.slice a4 (1:Nat) a5) [d2]/\aE b8 (.slice K (1:Nat) M) [d7] from⟨q4.1.below h6,q4.2.below h6⟩);have y6:=zh (show∀j,aD (.slice a4 (1:Nat) a5) j\/aD (.slice K (1:Nat) M) j-> ¬(S.sv (dq S st k) V).fr b8 q j/\j<w1.heap.size from λj h=>⟨λe=>(y3 j h).1 (by rw[P];exact c7.tto.at_.fr_below h6 e),(y3 j h).2⟩);obtain⟨o7,o8,o9,p0,p1⟩:=info_parts kD;clear e3 e4 e5 e6 e7 e8 e9 f0 c0 q5 q6 q7 q8 q9 r0 a2;obtain⟨c0,q5,q6,q7,q8,q9,r0⟩:=dT y4;have a2:=aa y4;go_wp2_with (at_builtin;refine bb (enc:=aA.cells) rfl _ _ 333 rfl w1.heap.size 340 o7 _ 88 underlying333 o8 o9 p0 p1 rfl zd _ _ a8 _ [aA.mk c9 d0 d1 d7 d2 (.slice K (1:Nat) M) (.slice a4 (1:Nat) a5)] rfl (by rw[Q];exact(b4.fresh ze).own) rfl (bC 7 (c:=1) (l:= [aA.mk c9 d0 d1 d7 d2 (.slice K (1:Nat) M) (.slice a4 (1:Nat) a5)]) (ag zm) rfl ⟨Nt 1,zd⟩) (λ_=>rfl) ?qc1 ?qc2 zd ?qc3 ?_)
     case qc1=>intro x p5 y b2;obtain rfl:=Nz.1 p5;simp only[aA.cells,NL,NJ,Ou] at b2;rcases b2 with rfl|rfl|rfl|rfl|rfl|rfl|rfl<;>rfl
     case qc2=>show(a8+1)*88<140737488355328;omega
     case qc3=>have:=b4.tto.ch.size;simp;omega
     intro p6 p7 b1 g9 h0;have R:=ak b8 (.cells #[.int .u64 c9,(d0:Int),(d1:Int),(),(1:Int),.slice K (1:Nat) M,.slice a4 (1:Nat) a5] 340);have h1:=b4.fresh R
     have h2:=h1.push (p:=⟨c9,d0,d1,d7,d2,.slice K (1:Nat) M,.slice a4 (1:Nat) a5⟩) (v':=p6) (w7:=p7) i8 (by rw[<-Q];simpa using b1) (by rw[<-Q];exact g9) (by rw[<-Q];exact h0) ⟨y5.1.below R,y5.2.below R⟩ (λj h=>⟨λe=>(y6 j h).1 (b4.tto.at_.fr_below R e),λe=>by
      have C:=(ar b4.own (g:=j) (by rw[<-Q];rw[<-Q] at e;exact e)).1;have N:=(y6 j h).2;omega⟩)
     have h3:=zh (show({(dq S st k:kZ) with out:=(dq S st k).out++ [aA.pp ⟨c9,d0,d1,d7,d2,.slice K (1:Nat) M,.slice a4 (1:Nat) a5⟩]}:kZ)=dq S st (k+1) from j7.symm);have p8:=zh h2;obtain⟨F1,F2,rfl⟩:=az b1;clear h1 R h2 b1 g9 h0 c0 q5 q6 q7 q8 q9 r0 a2;have F3:k<=20:=by have C:=b6.out;have N:=e2.out;omega
     go_wp2_with fail;refine⟨⟨k+1,L++ [⟨c9,d0,d1,d7,d2,.slice K (1:Nat) M,.slice a4 (1:Nat) a5⟩],V,by have:=b6.out;omega,rfl,zh (by rw[Nw,f8];rfl),zh ?_,zh λp r j h=>?_⟩,by simp only[intOf];have:=b6.out;omega⟩
     ·have N:=p8.out
      rw[h3] at N;exact N
     ·rcases Og.1 r with r|r
      ·exact m3 p r j h
      ·obtain rfl:=Nz.1 r
       exact .inl (F4 j h)
  ·have y7:k=e1:=zo
   have y8:k=(cA st).length:=by rw[y7];exact f7.2
   have y9:dq S st k=bm S st:=by rw[y8];rfl
   have a9:=b5.out;rw[y9] at a9;obtain⟨A,O⟩:=zx (S.sv (bm S st) V:aM);have h7:bz w1 q rest T S wr A:=by rw[O];exact a9.tto
   have r1:=zh h7;have P:=zh O;have r2: ∀j,S.fr w1 q j->S.fr w q j:=λj h=>H.fr_below a6 h
   have A0:=(l8.step a6.size λj h=>a6.block j (l8.lt h)).step h7.ch.size λj h=>h7.ch.block j (No (l8.lt h) a6.size) λe=>H8 j h (aM.fr_ext (r2 j e))
   have F6:=zh A0;have A1:=(v0.fresh a6).step (h7.ch.below (λj h=>H9 j (r2 j h)) (v0.fresh a6).1);have A2:=zh A1;have r3:=aB.own a9.own;have d4:=zh (And.intro a9.rows a9.nb);have r4:=zh a9.out;have h8:=zh (show∀j,aD (.slice va L.length vc) j-> ¬A.fr wr q j/\j<wr.heap.size from λj h=>⟨by rw[O];exact a9.nf j (yS h),(ar a9.own (yS h)).2.1⟩);have A3:L.length<=20:=by have:=f8.out;have:=e2.out;omega
   obtain⟨a8,r5⟩:=zx L.length;have Q:=zh r5;have A4:=zh A3;have g6:=yR (ps:=nT S) (s:=Gh S) (ys:=cA st) (cA st).length zl
   have f3:(DG S.d n/\DG A.d 900000100)\/(rY S.d/\A.d=S.d):=J.dg.imp (λW=>⟨W,by
    have k1:=pD (ps:=nT S) (s:=Gh S) (ys:=cA st) W (cA st).length zl;rw[O];exact DG.mono k1 (by have:=J.n;have:=J.len;omega)⟩) (λW=>⟨W.1,by rw[O];exact rp W.2 _ zl⟩)
   have r6:=zh (show A.c<=S.c+20 by rw[O];have C:(bm S st).c<=S.c+(cA st).length:=g6;have:=J.len;show(bm S st).c<=_;omega);have r7:=zh f3;have r8:=Dd (st:=st) (S:=A) (s:=bm S st) (L:=L) a9.out (by rw[O];rfl);have h9:=zh (show A.gen=S.gen by rw[O];rfl);have A5:=De (st:=st) (S:=A) (s:=bm S st) (L:=L) a9.out (by rw[O];rfl) (by rw[h9];exact J.valid);rw[h9] at r8;have k8:=zh (show(fB A st L).bytes=cC S st from r8);have A6:=zh A5;rw[<-r5] at r3 h8⊢;clear y7 y8 y9 a9 O h7 r2 A0 A1 A3 r5 g6 f3 r8 A5 m2;go_wp2_with fail;clear f9 D5;have A7:=Gd (S:=A) (L:=L) (pv:= .slice va a8 vc) A2 A2.1 F6 J.ok J.now r1.at_ (r7.imp (·.2) λW=>by rw[W.2];exact W.1) zd (by have:=r6.out;have:=J.c;omega) (by rw[Q];rw[<-Q];exact(by have C:=r3.1;rw[Q] at C⊢;exact C)) (λp r=>(d4.1 p r).2) (λp r=>by obtain⟨a,c,e,-⟩:=(d4.1 p r).1;exact⟨a,_,c,e⟩) A4 (by rw[h9];exact J.gen) A6 (by rw[P];exact J.id) ⟨J.short.p,J.short.o⟩ (by rw[k8];exact J.bytes);refine A7.mono ?_;clear A7;rintro e D (⟨f3,rfl,Z⟩|⟨A8,rfl,Z⟩);rotate_left
   ·have A9:=zh (show rY S.d/\A.d=S.d from r7.elim (λW=>by have C:=W.2.on;rw[A8.on] at C;cases C) id)
    have d8:=zh ((bz.refl H a6).trans (r1.trans Z));clear Z A8;go_wp2_with fail;go_ret;refine .inr ⟨A9.1,rfl,_,d8,A9.2,by rw[P];rfl,by rw[P];rfl,by have:=r6.out;show A.c+1<=_;omega,by rw[P];rfl,by rw[P];rfl⟩
   have F7:=zh (show DG S.d n from r7.elim (·.1) λW=>by have C:=f3.on;rw[W.2,W.1.on] at C;cases C);have F8:=zh f3;clear f3;obtain⟨r9,i0⟩:=zx (kO (cC S st));have s0:r9<=10:=by rw[i0];unfold kO;have:(cC S st).length<=2560:=J.bytes;omega
   have B0:mH A st L=er S st:=by
    unfold mH er;rw[k8,h9,P];rfl
   have B1:DG (er S st) 900000200:=by
    have C:=(F8.many (k:=if (S.gen+1)%2=1 then 18 else 28) (ii (lH (cC S st))) (kO (cC S st))).after.mono (n:=_) (m:=900000200) (by have:=s0;rw[i0] at this;omega);rw[P] at C;exact C
   rw[B0,k8,<-i0] at Z;obtain⟨S2,i1⟩:=zx ({A with c:=A.c+r9,d:=er S st}:aM);rw[<-i1] at Z;have d8:=r1.trans Z;have B2:=zh i1;have B3:=zh B1;have B4:=zh (show S2.c<=S.c+30 by rw[i1];have:=r6.out;show A.c+r9<=_;omega)
   have f4:=zh (show(∀p∈L,aB 7 ay.cells D p.rv [p.r]/\aE D p.bv [p.blk])/\ ∀p∈L,∀j,aD p.rv j\/aD p.bv j-> ¬S2.fr D q j from
    ⟨λp r=>⟨(d4.1 p r).1.ch Z.ch λj h=>by rw[P];exact(d4.2 p r j (.inl h)).1,(d4.1 p r).2.ch_ Z.ch λj h=>by rw[P];exact(d4.2 p r j (.inr h)).1⟩,
     λp r j h=>(Z.out_ (gH (d4.1 p r) h) (by rw[P];exact(d4.2 p r j h).1)).2⟩)
   have F9:=zh (show aB 7 aA.cells D (.slice va a8 vc) L from by have C:=r3.1.ch Z.ch λj h=>(h8 j h).1;exact C);have k9:=zh (show∀j,aD (.slice va a8 vc) j-> ¬S2.fr D q j/\j<D.heap.size from λj h=>⟨(Z.out_ (h8 j h).2 (h8 j h).1).2,No (h8 j h).2 Z.ch.size⟩);have J0:=zh (And.intro i0 s0);obtain⟨d9,l0⟩:=zx ((cC S st).length);have B5:d9<=2560:=by rw[l0];exact J.bytes
   have s1:=zh (And.intro l0 B5);obtain⟨G,l1⟩:=zx S.gen;have G0:0<=G/\G<=1000000:=by rw[l1];exact J.gen
   have s2:=zh (And.intro l1 G0);have B6:=zh (show S2.gen=G by rw[i1,l1];exact h9);rw[k8,<-l0];obtain⟨m9,n0,n1,n2,n3,n4,n5,n6,j4,n7,j5,n8,n9,o0⟩:=d8.at_.cells;have j6:=aa d8.at_.blk;rw[B6] at j4;clear Z i0 s0 B0 B1 i1 l0 B5 l1 n0 n1 n2 n3 n4 n5 n7 j5 n8 n9 o0;go_wp2_with fail;refine aC (S:=(iz D)) 16 zk ?_ (λs3=>?_)
   ·(first|exact ax _|exact aj _ _ s3 l6|exact aj _ _ s3 ze|exact s3)
   refine zT 0 ?_;refine zT 1 ?_;refine zT 2 ?_;refine zT 3 ?_;refine zT 4 ?_;refine zT 5 ?_;refine zT 6 ?_;refine zT 7 ?_;refine zT 8 ?_;refine zT 9 ?_;refine zT 10 ?_;refine zT 11 ?_;refine zT 12 ?_;refine zT 13 ?_;refine zT 14 ?_;refine zT 15 ?_;refine zF ?_;go_wp2_with fail;have B7:=s2.out;have d5:Qr D.heap.size D D.drew:=zr.drew;have s4:=d8.fresh d5;have B8:(⟨G+1,90,d9⟩:SV).may:=⟨by show gZ 90;decide,by show G+1≠0;omega,by show(0:Int)<=d9;omega,by have:=s1.out;show(d9:Int)<=40000;omega⟩;obtain⟨s5,B9⟩:=B3.sw B8 (by show 0<=G+1;omega);have s6:S2.d=er S st:=by rw[B2]
   have l2:=xT ⟨G+1,90,d9⟩ s4.at_.disk (by have:=B4.out;have:=J.c;omega) (by rw[s6];have:=B3.writes;omega) (by unfold SV.ok aQ;have:=s1.out;dsimp only;omega);rw[s6] at l2;have s7:((er S st).sw ⟨G+1,90,d9⟩).1=dz S st:=by unfold dz;rw[B7.1,s1.1]
   have C0:((er S st).sw ⟨G+1,90,d9⟩).2=0:=by rw[s5]
   have G1:=zh (show DG (dz S st) 900000203 by rw[<-s7,s5];exact B9);rw[s7,C0] at l2;refine l2.mono ?_;clear l2 s5 B9 B8 s6 s7 C0;rintro e c1 ⟨rfl,C1,C2⟩;have i2:=s4.at_.disk' C1 G1.keep C2;obtain⟨a0,l3⟩:=zy ({S2 with c:=S2.c+1,d:=dz S st}:aM);rw[<-l3] at i2;have i3:Ch (S2.fr D q) D c1:=d5|>λG2=>(Ch.fresh (F:=S2.fr D q) G2).trans (i2.ch.mono λj _ h=>d8.at_.fr_below d5 h)
   have s8: ∀j,j<D.heap.size-> ¬S2.fr D q j-> ¬a0.fr c1 q j:=λj h G3=>(i2.out_ h λe=>G3 (d8.at_.fr_below d5 e)).2
   have i4:=s4.trans i2
   have f5:=zh (show(∀p∈L,aB 7 ay.cells c1 p.rv [p.r]/\aE c1 p.bv [p.blk])/\ ∀p∈L,∀j,aD p.rv j\/aD p.bv j-> ¬a0.fr c1 q j from
    ⟨λp r=>⟨(f4.1 p r).1.ch i3 λj h=>f4.2 p r j (.inl h),(f4.1 p r).2.ch_ i3 λj h=>f4.2 p r j (.inr h)⟩,
     λp r j h=>s8 j (gH (f4.1 p r) h) (f4.2 p r j h)⟩)
   have G4:=F9.ch i3 λj h=>(k9 j h).1
   have s9:=zh (show∀j,aD (.slice va a8 vc) j-> ¬a0.fr c1 q j/\j<c1.heap.size from λj h=>⟨s8 j (k9 j h).2 (k9 j h).1,No (k9 j h).2 i3.size⟩);have G5:=zh (show a0.gen=G by rw[l3];exact B6);obtain⟨t0,t1,t2,t3,t4,t5,t6,t7,i5,t8,t9,u0,i6,u1⟩:=i4.at_.cells;have l4:=aa i4.at_.blk;have u2:=λo=>ad (o:=o) i4.at_.blk
   rw[G5] at i5;clear C1 C2 i2 i3 s8 d5 B7 m9 n6 j4 j6 t0 t1 t2 t3 t4 t5 t6 t7 t8 t9 u0 i6 u1;go_wp2_with fail;obtain⟨I,c5⟩:=zx (c1.setCell ⟨q,8,none⟩ (.int .u64 (G+1)));have c2:bz c1 q rest T a0 I {a0 with gen:=G+1,id:=a0.id,bad:=a0.bad}:=by rw[c5];exact i4.at_.setc (G+1) a0.id a0.bad rfl
   obtain⟨C3,u3⟩:=zx ({a0 with gen:=G+1,id:=a0.id,bad:=a0.bad}:aM);rw[<-u3] at c2;have C4:=i4.trans c2;have u4:=zh u3;have u5:L.map aA.pp=(bm S st).out:=r4;have u6:=A6.ents
   have C5:JF I q C3 L:=by
    refine⟨λp r=>⟨(f5.1 p r).1.ch c2.ch λj h=>f5.2 p r j (.inl h),(f5.1 p r).2.ch_ c2.ch λj h=>f5.2 p r j (.inr h)⟩,λp r j h=>(c2.out_ (gH (f5.1 p r) h) (f5.2 p r j h)).2,?_,λp r=>?_,λk p r=>?_⟩
    ·have C:=u6.ps
     rw[show((fB A st L).es.map λe=>(e.tier,e.shard))=L.map aA.key by show((L.map aA.ent).map λe=>(e.tier,e.shard))=_;rw[Py];rfl] at C;exact C
    ·have C:=u6.ok p.ent (Pc r)
     obtain⟨N,c8,-⟩:=C;have N:0<=p.tier/\p.tier<=9:=N;have c8:0<=p.shard/\p.shard<=7:=c8;unfold aQ;omega
    ·have C:=J.take k p.pp (by rw[<-u5,OG,r];rfl)
     rw[Bc,List.map_take,u5];exact C
   have C6:=ti (pv:= .slice va a8 vc) c2.at_ (G4.ch c2.ch λj h=>(s9 j h).1) (λj h=>(c2.out_ (s9 j h).2 (s9 j h).1).2) C5 A4;rw[<-c5];refine C6.mono ?_;clear C6 C5 u6 u5 c2 u3 c5 i5 l4 u2;rintro e b0 ⟨m,l,u7,rfl,u8,C7,G6,-⟩;obtain⟨e0,l5⟩:=zx ({C3 with ps:=L,pm:=m,bk:=l,V:=u7}:aM);rw[<-l5] at u8;have c3:=C4.trans u8;have C8:=zh l5;have G7:=zh C7;have G8:=zh (show w.heap.size<=m by have:=C4.ch.size;have:=a6.size;omega);obtain⟨t0,t1,t2,t3,t4,t5,t6,t7,i5,t8,t9,u0,i6,u1⟩:=c3.at_.cells;have l4:=aa c3.at_.blk;have u2:=λo=>ad (o:=o) c3.at_.blk
   have G9:=zh (show e0.gen=G+1 by rw[l5,u4]);rw[G9] at i5
   have H0: ∃a,rl e0.lg= .pointer a:=by
    cases e0.lg with
    |none=>exact⟨none,rfl⟩
    |some x=>exact⟨_,rfl⟩
   obtain⟨J1,C9⟩:=H0;rw[C9] at i6;clear u8 l5 C7 G6 t0 t2 t3 t4 t5 t6 t8 t9 u0 u1 C9;go_wp2_with fail;have D0:=If 2 16 (G+1) (c3.fresh (show Qr b0.heap.size b0 b0.drew from zr.drew)).at_.disk (by have:=s2.out;omega) zd;have Y:=zh D0;clear D0;go_region_with (refine Y.mono ?_;rintro e D1 ⟨t,rfl,f6,H1,u9,l6⟩;have H2:D1.cell? ⟨q,12,none⟩=_:=(l6.cell (p:=⟨q,12,none⟩) l4).trans i6;have l7:=(c3.fresh (show Qr b0.heap.size b0 b0.drew from zr.drew)).fresh l6;have H3: ∀o,D1.frozen? ⟨q,o,none⟩=false:=λo=>ad (o:=o) l7.at_.blk;have H4:=aa l7.at_.blk)
   all_goals
    have H5:=zh (l7.setl (t:=t) (G:=LV.new 2 16 (G+1)) u9.2 (by have C:=f6;have N:=c3.ch.size;have c8:b0.heap.size<=t:=C;omega) u9.1 (λe=>by have C:=f6;have c8:b0.heap.size<=t:=C;omega) (λe=>by
     have C:=c3.at_.lt (.inr (.inl e));have c8:b0.heap.size<=t:=f6;omega) (λe=>by
     have C:=c3.at_.lt (.inr (.inr (.inl e)));have c8:b0.heap.size<=t:=f6;omega))
    have H6:=zh (show w.heap.size<=t by have c8:b0.heap.size<=t:=f6;have:=c3.ch.size;have:=a6.size;omega);have H7:=zh (show e0.c<=S.c+31 by rw[C8,u4,l3];have:=B4.out;show S2.c+1<=_;omega);have h3:=zh (show({e0 with lg:=some (t,LV.new 2 16 (G+1))}:aM)={S with gen:=S.gen+1,id:=(bm S st).id,ps:=L,pm:=m,bk:=l,V:=u7,c:=e0.c,d:=dz S st,lg:=some (t,LV.new 2 16 (S.gen+1))} by rw[C8,u4,l3,B2,P,<-s2.1];rfl);clear f6 H1 u9 l6 l7 H3 H4 H2 t1 t7 i5 i6 l4 u2;go_wp2;go_ret;refine .inl ⟨F7,rfl,L,u7,m,l,t,e0.c,?_,r4,by rw[G7,Bc,r4],H7,H6,G8,m3⟩;have N:=(bz.refl H a6).trans H5;rw[h3] at N;exact N
def Df{B:Nat}(g:cl B w)(h:B<=w.heap.size)(i:bJ w b st)(j:bD w q rest T S)(l: ∀k,b.own k-> ¬(S.ext q k\/cL w S.dp k))(m: ∀k,S.fr w q k->B<=k)(c:dZ S st n):
 Qo zP 182 #[q,b.s] w (ux w q rest T S st):=
 (tj g h i j l m c.any).mono λe w' d=>d.elim (·.2) λf=>by have a:=f.1.on;rw[c.dg.on] at a;cases a
end
section
variable{w w' w1 wk:Qm}{q:Nat}{rest:List Qn}{T:Qp}{S S' S1:aM}{st:au}{b:SB}{n:Int}
def JG(a:bD w q rest T S):w.cell? ⟨q,6,none⟩=some (.int .i64 26):=a.cells.2.2.2.2.2.2.1
def nU{B:Nat}(a5:Qs (cl B w))(a6:Qs (B<=w.heap.size))(K:Qs (bJ w b st))(H:Qs (bD w q rest T S))(a7:Qs (∀k,b.own k-> ¬(S.ext q k\/cL w S.dp k)))(a8:Qs (∀k,S.fr w q k->B<=k))(a9:Qs (dZ S st n))(M:S.bad=0)(b0:Qs (st.room=26)):
 Qo zP 116 #[q,b.s] w (ux w q rest T S st):=by
 have u:=zh M;have N:=aa H.blk;have O:=JG H;clear M;go_enter func116,ntmps116;go_wp2_with fail;refine aC (S:=(iz w)) 17 zk ?_ (λa=>?_)
 ·(first|exact ax _|exact aj _ _ a f|exact aj _ _ a ze|exact a)
 refine zT 0 ?_;refine zO 1 λP g=>?_
 go_simp;refine zb (nS (H.below a.1)) λb1 f=>?_
 refine zE g (by first|exact ax _|exact aj _ _ a f|exact aj _ _ a ze|exact a) λa=>?_
 refine zT 2 ?_;refine zT 3 ?_;refine zT 4 ?_;refine zT 5 ?_;refine zT 6 ?_;refine zT 7 ?_;refine zT 9 ?_;refine zT 10 ?_;refine zT 11 ?_;refine zT 12 ?_;refine zT 13 ?_;refine zO 8 λP g=>?_
 go_simp;refine zb (kz (K.below a.1)) λQ f=>?_;rw[b0]
 refine zE g (by first|exact ax _|exact aj _ _ a f|exact aj _ _ a ze|exact a) λa=>?_
 refine zT 14 ?_;refine zT 15 ?_;refine zT 16 ?_;refine zH ?_;have B2:=zh a.1;have h:=H.below a.1;have R:=aa h.blk;have r:Q.cell? ⟨q,13,none⟩=some (.int .i64 0):=by rw[<-u];exact h.cells.2.2.2.2.2.2.2.2.2.2.2.2.2
 clear a N O;go_wp2_with fail;have v:=Df (a5.fresh B2) (Nq a6 B2.size) (K.below B2) h (λk s e=>a7 k s (e.imp id λe=>(H.own_below B2 k).1 e)) (λk s=>a8 k (H.fr_below B2 s)) a9;refine v.mono ?_;clear v r;rintro e b2 ⟨rfl,L,V,m,l,t,c,d,x,A,C,D,E,F⟩;have U:=zh (And.intro x (And.intro A (And.intro C (And.intro D (And.intro E F)))));have I:=zh ((bz.refl H B2).trans d);have W:=aa d.at_.blk;have X:=λo=>ad (o:=o) d.at_.blk
 have r:=d.at_.cells.2.2.2.2.2.2.2.2.2.2.2.2.2;clear d x A C D E F R;go_wp2_with fail;have J:=I.at_.setc (i:=13) (y:= .int .i64 0) (S.gen+1) (bm S st).id S.bad (by rw[u];rfl);have Y:=I.trans J;clear r J X W;go_ret;obtain⟨Z,a0,a1,b3,b4,a2⟩:=U.out;refine⟨rfl,L,V,m,l,t,c,?_,Z,a0,a1,by have:=B2.size;omega,by have:=B2.size;omega,λp a3 j a4=>(a2 p a3 j a4).imp id λe=>by have:=B2.size;omega⟩;exact Y
def rq{L:List aA}{V:dn}{m l t c gen id:Nat}{d:DV}{S2:aM}(g:bz w q rest T S w' S2)(h:S2.ps=L)(o:S2.pm=m)(r:w.heap.size<=m)(i: ∀p∈L,∀j,aD p.rv j\/aD p.bv j->S.still j\/w.heap.size<=j){k:Nat}(n:S2.ext q k\/cL w' S2.dp k):(S.ext q k\/cL w S.dp k)\/w.heap.size<=k:=by
 rcases aM.ext_fr n with a|a
 ·exact(g.own k a).imp aM.fr_ext _root_.id
 ·rcases a with a|⟨p,f,a⟩
  ·exact .inr zo
  ·rw[h] at f
   exact(i p f k a).imp (λe=> .inl (.inr (.inr (.inl e)))) _root_.id
def pi(d:DV):DV:=(pB d 0 (λ_=>jH) 18).spent.flushed
def Kw(w:Qm)(dp B c:Nat)(d:DV)(st:au)(e:Qq)(w':Qm):Prop:=
 ∃(q:Nat) (S0 S':aM),e= .returned (.tuple #[q,()])/\bD w' q [] 80 S'/\Ch (cL w dp) w w'/\(∀k,S'.ext q k\/cL w' dp k->cL w dp k\/w.heap.size<=k)/\(S0.dp=dp/\S0.B=B/\S0.c<=c+18/\S0.d=pi d/\S0.gen=0/\S0.id=0/\S0.ps= []/\S0.V.pure=dm [])/\
  ∃(L:List aA) (V:dn) (m l t c':Nat),S'={S0 with gen:=1,id:=(bm S0 st).id,ps:=L,pm:=m,bk:=l,V:=V,c:=c',d:=dz S0 st,lg:=some (t,LV.new 2 16 1),bad:=0}/\L.map aA.pp=(bm S0 st).out/\V.pure=hR (bm S0 st).out/\c'<=c+49
def Gi{B0 B dp c:Nat}{d:DV}(a7:Qs (cl B0 w))(y:Qs (bJ w b st))(a8:Qs (bg w B dp c d))(d4:Qs (d.keep= []))(d5:Qs (∀k,b.own k-> ¬cL w dp k))(d6:Qs (∀k,cL w dp k->B0<=k))(d7:Qs (DG d n))(I:n<=800000000)(d8:c<=800000)(d9:Qs (st.room=26))
 (f5:Qs (∀S0:aM,S0.dp=dp->S0.B=B->S0.c<=c+18->S0.d=pi d->S0.gen=0->S0.id=0->S0.ps= []->S0.V.pure=dm []->dZ S0 st (n+19))):
 Qo zP 62 #[dp,b.s] w (Kw w dp B c d st):=by
 have a9:=zh (And.intro I d8);have b0:=jJ 90;clear I d8;go_enter func62,ntmps62;go_wp2_with fail;have J:=iZ a8;rw[d7.blocks] at J;refine J.mono ?_;clear J;rintro e w1 ⟨rfl,b1⟩;have b2:=zh b1;clear b1;go_wp2_with fail;refine(b0 w1 zd).mono ?_;rintro e b3 ⟨rfl,b4⟩;rw[show pa 90= .agg #[(90:Int),(2:Int),(18:Int),(28:Int),(10:Int),(38:Int),(26:Int)] from rfl];have B2:=b2.trans (b4.mono b2.size);clear b4 b0;go_wp2_with fail;obtain⟨e0,u⟩:=zx b3.heap.size;obtain⟨K,A⟩:=zx (b3.alloc (.cells #[(90:Int),(2:Int),(18:Int),(28:Int),(10:Int),(38:Int),(26:Int)] 75));have M:=zh (show K.heap[e0]?=some (.cells #[(90:Int),(2:Int),(18:Int),(28:Int),(10:Int),(38:Int),(26:Int)] 75) by rw[A,u];exact Nu _ _);have C:=zh (show Qr w.heap.size w K by rw[A];exact ai B2 ze);rw[<-A,<-u];clear A u;obtain⟨N,O,P,Q,R,T,U⟩:=dT M;have W:=aa M;refine aC (S:=(iz K)) 5 zk ?_ (λi=>?_)
 ·(first|exact ax _|exact aj _ _ i b5|exact aj _ _ i ze|exact i)
 refine zT 0 ?_;refine zT 2 ?_;refine zT 3 ?_;refine zO 1 λf6 e1=>?_
 go_simp;refine zb (kz (y.below (C.trans (i.1.mono C.size)))) λf7 b5=>?_;rw[d9]
 refine zE e1 (by first|exact ax _|exact aj _ _ i b5|exact aj _ _ i ze|exact i) λi=>?_
 refine zT 4 ?_;refine zH ?_;have D:=C.trans (i.1.mono C.size);have b6:=zh (ab M i.1);clear i N O P Q R T U W;obtain⟨N,O,P,Q,R,T,U⟩:=dT b6;have W:=aa b6;go_wp2_with fail;have X:=rn (a8.step D) d4;rw[show pa 90= .agg #[(90:Int),(2:Int),(18:Int),(28:Int),(10:Int),(38:Int),(26:Int)] from rfl] at X;refine X.mono ?_;clear X N O P Q R T U W;rintro e b7 ⟨q,m,l,V,rfl,Y,b8,b9,e2,e3,c1⟩;obtain⟨r,f⟩:=zy (⟨dp,B,c,d,0,0,[],m,l,V,none,0⟩:aM);rw[<-f] at Y;have h:=D.trans (b9.mono D.size);have e4:=zh Y
 have c2:=zh (show∀k,r.ext q k->w.heap.size<=k from λk a=>by
  have e5:=D.size;rw[f] at a;rcases a with a|a|(a|⟨p,e6,-⟩)|⟨x,e7,-⟩
  ·omega
  ·have:=c1 k a;omega
  ·have a:k=m:=a
   omega
  ·cases e6
  ·cases e7)
 have c3:=zh b8;clear Y b8 b9 e2 e3 c1;go_wp2_with fail;have c4:DG r.d n:=by rw[f];exact d7
 refine(Db e4 c4 (by have:=a9.out;omega) (by rw[f];have:=a9.out;show c+18<=_;omega)).mono ?_;rintro e E ⟨rfl,o⟩;obtain⟨j,g⟩:=zy ({r with c:=r.c+18,d:=(pB r.d 0 (λ_=>jH) 18).spent.flushed}:aM);rw[<-g] at o;clear c4;go_wp2_with fail;have c5: ∀k,cL b7 dp k↔cL w dp k:=(a8.ch_ (F:=λ_=>False) d4 (Ch.fresh h) λ_ _ e=>e).2;have Z:r.dp=dp:=by rw[f]
 have a0:=zh (show j.dp=dp by rw[g];exact Z)
 have v: ∀k,r.fr b7 q k->cL w dp k\/w.heap.size<=k:=λk a=>by
  rcases aM.fr_ext a with e|e
  ·exact .inr (c2 k e)
  ·rw[Z] at e;exact .inl ((c5 k).1 e)
 have H: ∀k,j.fr E q k->cL w dp k\/w.heap.size<=k:=λk a=>by
  rcases o.own k a with e|e
  ·exact v k e
  ·have:=h.size;exact .inr zo
 have a1: ∀k,j.ext q k\/cL E j.dp k->cL w dp k\/w.heap.size<=k:=λk a=>by
  rcases aM.ext_fr a with e|e
  ·exact H k e
  ·refine .inr (c2 k (.inr (.inr (.inl ?_))))
   rw[g] at e;exact e
 have e8:=a7.1;have a2:cl B0 E:=(a7.fresh h).step (o.ch.below (λk a=>(v k a).elim (d6 k) λe=>zo) (a7.fresh h).1);have c6:bJ E b st:=(y.below h).step o.ch.size λk a=>o.ch.block k (No (y.lt a) h.size) λe=>(v k e).elim (d5 k a) λe=>by have:=y.lt a;omega
 have c7:=nU (n:=n+19) a2 a2.1 c6 o.at_ (λk a e=>(a1 k e).elim (d5 k a) λe=>by have:=y.lt a;omega) (λk a=>(H k a).elim (d6 k) λe=>zo) (f5 j a0 (by rw[g,f]) (by rw[g,f];exact Nt _) (by rw[g,f];rfl) (by rw[g,f]) (by rw[g,f]) (by rw[g,f]) (by rw[g,f];exact c3)) (by rw[g,f]) d9;have c8:=zh (And.intro v (And.intro H a1));refine c7.mono ?_;clear c7 c5 Z v H a1 e8 a2 c6;rintro e w7 ⟨rfl,L,c9,e9,f0,f1,f2,a3,a4,a5,d0,f3,d1,d2⟩;have s:=o.trans a3;have f4:=zh (λk (a:aM.ext _ q k\/cL w7 _ k)=>rq (c:=0) (gen:=0) (id:=0) (t:=0) (l:=0) (V:=c9) (d:=j.d) a3 rfl rfl d1 d2 a);have a6:=zh (And.intro a4 (And.intro a5 d0));clear a3 a4 a5 d0 f3 d1 d2;go_wp2;go_ret2;have d3:j.gen=0:=by rw[g,f]
 have f8:j.c=c+18:=by rw[g,f]
 have u:j.bad=0:=by rw[g,f]
 refine⟨q,j,_,rfl,s.at_,?_,λk a=>?_,⟨a0,by rw[g,f],zo,by rw[g,f];rfl,d3,by rw[g,f],by rw[g,f],by rw[g,f];exact c3⟩,L,c9,e9,f0,f1,f2,by rw[d3,u];rfl,a6.1,a6.2.1,by have:=a6.2.2;omega⟩
 ·refine⟨s.ch.os.trans h.os,s.ch.tape.trans h.tape,s.ch.output.trans h.output,Nq h.size s.ch.size,λk a I=>(s.ch.block k (No a h.size) λe=>(c8.1 k e).elim I λe=>zo).trans (h.block k a)⟩
 ·have e5: ∀S':aM,S'.dp=dp->True:=λ_ _=>trivial
  rcases f4.out k (by
   rcases a with a|a
   ·exact .inl a
   ·refine .inr ?_
    rw[<-a0] at a;exact a) with e|e
  ·exact c8.2.2 k e
  ·have a4:=o.ch.size
   have a5:=h.size;exact .inr zo
end
section
variable{w w' w1 wk:Qm}{q:Nat}{rest:List Qn}{T:Qp}{S S' S1:aM}{st:au}{b:SB}{n:Int}
def wF(w:Qm)(q:Nat)(rest:List Qn)(T:Qp)(S:aM)(e:Qq)(w':Qm):Prop:=
 e= .returned (.int .i64 14)/\ ∃S',bz w q rest T S w' S'/\S'.d=S.d/\S'.dp=S.dp/\S'.B=S.B/\S'.c<=S.c+31
def Dg{B:Nat}(Q:Qs (cl B w))(R:Qs (B<=w.heap.size))(C:Qs (bJ w b st))(H:Qs (bD w q rest T S))(U:Qs (∀k,b.own k-> ¬(S.ext q k\/cL w S.dp k)))(V:Qs (∀k,S.fr w q k->B<=k))(W:Qs (ij S st n))(X:Qs (S.d.on=false))(D:Qs (S.bad=0))(Y:Qs (st.room=26)):
 Qo zP 116 #[q,b.s] w (wF w q rest T S):=by
 have E:=aa H.blk;have F:=JG H;go_enter func116,ntmps116;go_wp2_with fail;refine aC (S:=(iz w)) 17 zk ?_ (λa=>?_)
 ·(first|exact ax _|exact aj _ _ a f|exact aj _ _ a ze|exact a)
 refine zT 0 ?_;refine zO 1 λI j=>?_
 go_simp;refine zb (nS (H.below a.1)) λZ f=>?_
 refine zE j (by first|exact ax _|exact aj _ _ a f|exact aj _ _ a ze|exact a) λa=>?_
 refine zT 2 ?_;refine zT 3 ?_;refine zT 4 ?_;refine zT 5 ?_;refine zT 6 ?_;refine zT 7 ?_;refine zT 9 ?_;refine zT 10 ?_;refine zT 11 ?_;refine zT 12 ?_;refine zT 13 ?_;refine zO 8 λI j=>?_
 go_simp;refine zb (kz (C.below a.1)) λJ f=>?_;rw[Y]
 refine zE j (by first|exact ax _|exact aj _ _ a f|exact aj _ _ a ze|exact a) λa=>?_
 refine zT 14 ?_;refine zT 15 ?_;refine zT 16 ?_;refine zH ?_;have B2:=zh a.1;have l:=H.below a.1;have K:=aa l.blk;have g:J.cell? ⟨q,13,none⟩=some (.int .i64 0):=by rw[<-D];exact l.cells.2.2.2.2.2.2.2.2.2.2.2.2.2
 clear a E F;go_wp2_with fail;have p:=tj (Q.fresh B2) (Nq R B2.size) (C.below B2) l (λk m e=>U k m (e.imp id λe=>(H.own_below B2 k).1 e)) (λk m=>V k (H.fr_below B2 m)) W;refine p.mono ?_;clear p g;rintro e a0 (⟨L,-⟩|⟨-,rfl,r,c,d,s,t,u,M,v⟩)
 ·have d:=L.on
  rw[X] at d;cases d
 have h:=zh (And.intro d (And.intro s (And.intro t u)));have x:=zh ((bz.refl H B2).trans c);have N:=aa c.at_.blk;have O:=λo=>ad (o:=o) c.at_.blk
 have g:=c.at_.cells.2.2.2.2.2.2.2.2.2.2.2.2.2;rw[v,D] at g;clear c d s t u M v K;go_wp2_with fail;have A:=x.at_.setc (i:=13) (y:= .int .i64 14) r.gen r.id 14 rfl;have P:=x.trans A;clear g A O N;go_ret;exact⟨rfl,_,P,h.1,h.2.1,h.2.2.1,h.2.2.2⟩
end
structure bB(w:Qm)(e:Nat)(r:List Qn)(T:Qp)(S:aM)(b:SB)(σ:au):Prop where
 sto:bD w e ([.pointer (some ⟨b.s,0,none⟩),.bool true]++r) T S
 st:bJ w b σ
 ap: ∀k,b.own k-> ¬(S.ext e k\/cL w S.dp k)
def EF(w:Qm)(e:Nat)(S:aM)(b:SB)(k:Nat):Prop:=(S.ext e k\/cL w S.dp k)\/b.own k
structure bZ(w:Qm)(e:Nat)(r:List Qn)(T:Qp)(S:aM)(b:SB)(w':Qm)(S':aM)(b':SB)(σ':au):Prop where
 at_:bB w' e r T S' b' σ'
 own: ∀k,EF w' e S' b' k->EF w e S b k\/w.heap.size<=k
 ch:Ch (EF w e S b) w w'
section
variable{w w' w1:Qm}{e:Nat}{r:List Qn}{T:Qp}{S S' S1:aM}{b b' b1:SB}{σ σ' σ1:au}{n:Int}
def bB.lt(c:bB w e r T S b σ){k:Nat}(a:EF w e S b k):k<w.heap.size:=by
 rcases a with(a|a)|a
 ·exact c.sto.lt a
 ·exact c.sto.disk.own_lt a
 ·exact c.st.lt a
def bB.below(a:bB w e r T S b σ)(c:Qr w.heap.size w w'):bB w' e r T S b σ:=
 ⟨a.sto.below c,a.st.below c,λk d f=>a.ap k d (f.imp id λe=>(a.sto.own_below c k).1 e)⟩
def bB.ef_below(a:bB w e r T S b σ)(c:Qr w.heap.size w w'){k:Nat}(d:EF w' e S b k):EF w e S b k:=
 d.imp (λe=>e.imp id λe=>(a.sto.own_below c k).1 e) id
def bZ.refl(c:bB w e r T S b σ)(a:Qr w.heap.size w w'):bZ w e r T S b w' S b σ:=⟨c.below a,λk d=> .inl (c.ef_below a d),Ch.fresh a⟩
def bZ.trans(a:bZ w e r T S b w1 S1 b1 σ1)(c:bZ w1 e r T S1 b1 w' S' b' σ'):bZ w e r T S b w' S' b' σ':=by
 refine⟨c.at_,λk f=>?_,?_⟩
 ·rcases c.own k f with d|d
  ·exact a.own k d
  ·exact .inr (Nq a.ch.size d)
 ·exact⟨c.ch.os.trans a.ch.os,c.ch.tape.trans a.ch.tape,c.ch.output.trans a.ch.output,Nq a.ch.size c.ch.size,λk f g=>(c.ch.block k (No f a.ch.size) λd=>by
   rcases a.own k d with h|h
   ·exact g h
   ·omega).trans (a.ch.block k f g)⟩
def bZ.fresh(a:bZ w e r T S b w1 S1 b1 σ1)(c:Qr w1.heap.size w1 w'):bZ w e r T S b w' S1 b1 σ1:=a.trans (.refl a.at_ c)
def bB.sto'(c:bB w e r T S b σ)(d:bz w e ([.pointer (some ⟨b.s,0,none⟩),.bool true]++r) T S w' S')(f: ∀k,S'.ext e k\/cL w' S'.dp k->(S.ext e k\/cL w S.dp k)\/w.heap.size<=k):bZ w e r T S b w' S' b σ:=by
 have g: ∀k,b.own k-> ¬S.fr w e k:=λk a e=>c.ap k a (aM.fr_ext e)
 refine⟨⟨d.at_,c.st.step d.ch.size λk a=>d.ch.block k (c.st.lt a) (g k a),λk a e=>?_⟩,λk a=>?_,d.ch.mono λk _ a=> .inl (aM.fr_ext a)⟩
 ·rcases f k e with e|e
  ·exact c.ap k a e
  ·have:=c.st.lt a;omega
 ·rcases a with a|a
  ·exact(f k a).imp .inl id
  ·exact .inl (.inr a)
def bz.ext_{q:Nat}{rest:List Qn}(c:bz w q rest T S w' S')(d:S'.ps=S.ps)(e:S'.pm=S.pm){k:Nat}(f:S'.ext q k\/cL w' S'.dp k):(S.ext q k\/cL w S.dp k)\/w.heap.size<=k:=by
 rcases aM.ext_fr f with a|a
 ·exact(c.own k a).imp aM.fr_ext _root_.id
 ·refine .inl (.inl (.inr (.inr (.inl ?_))))
  rcases a with a|a
  ·exact .inl (a.trans e)
  ·unfold aM.rowb at a;rw[d] at a;exact .inr a
def bB.st'(c:bB w e r T S b σ)(m:b'.s=b.s)(n:bJ w' b' σ')(j: ∀k,b'.own k->b.own k\/w.heap.size<=k)(f:Ch b.own w w'):bZ w e r T S b w' S b' σ':=by
 have g: ∀k,S.ext e k\/cL w S.dp k-> ¬b.own k:=λk a e=>c.ap k e a
 have l:=c.sto.ch f g;have h:=(c.sto.disk.ch_ c.sto.keep f λk a=>g k (.inr a)).2;refine⟨⟨by rw[m];exact l,n,λk a d=>?_⟩,λk a=>?_,f.mono λk _ a=> .inr a⟩
 ·have d:=d.imp id (h k).1
  rcases j k a with i|i
  ·exact c.ap k i d
  ·have:=c.lt (.inl d);omega
 ·rcases a with a|a
  ·exact .inl (.inl (a.imp id (h k).1))
  ·exact(j k a).imp .inr id
def bB.ecells(a:bB w e r T S b σ):w.cell? ⟨e,14,none⟩=some (.pointer (some ⟨b.s,0,none⟩))/\w.cell? ⟨e,15,none⟩=some (.bool true):=by
 refine⟨?_,?_⟩<;>(rw[NA w e _ _ _ _ a.sto.blk];rfl)
def jn(a:bB w e r T S b σ):Qo zP 21 #[e] w (aK w (.bool true)):=by
 obtain⟨c0,c⟩:=a.ecells;have d:=aa a.sto.blk;clear a;go_enter func21,ntmps21;go_wp2;go_ret;exact⟨rfl,ND _ _⟩
def nV(a:bB w e r T S b σ):Qo zP 72 #[e,()] w (aK w (.int .i64 0)):=by
 clear a;go_enter func72,ntmps72;go_wp2;go_ret;exact⟨rfl,ND _ _⟩
def Gj(w:Qm)(e:Nat)(r:List Qn)(T:Qp)(S:aM)(b:SB)(σ:au)(x:Qq)(w':Qm):Prop:=
 x= .returned (.int .i64 0)/\ ∃(L:List aA) (V:dn) (m l t c:Nat),Qs (bZ w e r T S b w' {S with gen:=S.gen+1,id:=(bm S σ).id,ps:=L,pm:=m,bk:=l,V:=V,c:=c,d:=dz S σ,lg:=some (t,LV.new 2 16 (S.gen+1))} b σ)/\L.map aA.pp=(bm S σ).out/\V.pure=hR (bm S σ).out/\c<=S.c+31
def tm{B:Nat}(A:Qs (cl B w))(H:Qs (bB w e r T S b σ))(J:Qs (∀k,EF w e S b k->B<=k))(K:Qs (dZ S σ n))(M:Qs (S.bad=0))(N:Qs (σ.room=26)):
 Qo zP 69 #[e] w (Gj w e r T S b σ):=by
 obtain⟨c0,C⟩:=H.ecells;have D:=aa H.sto.blk;clear C;go_enter func69,ntmps69;go_wp2_with fail;have a:=zh (show Qr w.heap.size w w.drew from zr.drew);have f:=H.below a;have j:=nU (A.fresh a) (A.fresh a).1 f.st f.sto f.ap (λk g=>J k (.inl (aM.fr_ext (H.sto.fr_below a g)))) K M N;have E:=zh j;clear j;go_region_with (first|(refine E.mono ?_;rintro x O ⟨rfl,L,V,m,l,t,c,h,o,p,q,F,s,u⟩;have v:=f.sto' h (λk g=>rq (c:=0) (gen:=0) (id:=0) (t:=0) (l:=0) (V:=V) (d:=S.d) h rfl rfl s u g);have y:=zh ((bZ.refl H a).trans v);have i:=zh (And.intro o (And.intro p q));clear h o p q F s u v)|(refine zb (nV y.at_) λP I=>?_;have E2:=y.fresh I));clear c0 D;go_wp2;go_ret;exact⟨rfl,L,V,m,l,t,c,E2,i.1,i.2.1,i.2.2⟩
end
def KW(dp B c:Nat)(d:DV)(st:au)(S':aM):Prop:=
 ∃S0:aM,(S0.dp=dp/\S0.B=B/\S0.c<=c+18/\S0.d=pi d/\S0.gen=0/\S0.id=0/\S0.ps= []/\S0.V.pure=dm [])/\
  ∃(L:List aA) (V:dn) (m l t c':Nat),S'={S0 with gen:=1,id:=(bm S0 st).id,ps:=L,pm:=m,bk:=l,V:=V,c:=c',d:=dz S0 st,lg:=some (t,LV.new 2 16 1),bad:=0}/\L.map aA.pp=(bm S0 st).out/\V.pure=hR (bm S0 st).out/\c'<=c+49
def ik(n:ByteArray)(l:List ah):au:=⟨26,dJ.empty ⟨0,n,l,[]⟩,none⟩
def IU(w:Qm)(dp B c:Nat)(d:DV)(st:au)(x:Qq)(w':Qm):Prop:=
 ∃(e:Nat) (S':aM) (b:SB),x= .returned (.tuple #[e,()])/\Qs (bB w' e [] 82 S' b st)/\Qs (Ch (cL w dp) w w')/\Qs (∀k,EF w' e S' b k->cL w dp k\/w.heap.size<=k)/\Qs (KW dp B c d st S')
section
variable{w w' w1:Qm}{e:Nat}{r:List Qn}{T:Qp}{S S' S1:aM}{b b' b1:SB}{σ σ' σ1:au}{n:Int}
def wG{B0 B dp c:Nat}{d:DV}{m:Int}{K nm:ByteArray}{l:List ah}(b0:Qs (cl B0 w))(o:Qs (bg w B dp c d))(b1:Qs (d.keep= []))(c5:Qs (∀k,cL w dp k->B0<=k))(b2:Qs (DG d n))(b3:n<=800000000)(b4:c<=800000)(c6:Qs (fR K nm l))(c7:Qs (cD nm l=true))(c8:Qs (K.size<=1000000))(c9:Qs (w.cell? ⟨0,0,none⟩=some (.int .i64 m)))(d0:Qs (0<B0))
 (d1:Qs (∀S0:aM,S0.dp=dp->S0.B=B->S0.c<=c+18->S0.d=pi d->S0.gen=0->S0.id=0->S0.ps= []->S0.V.pure=dm []->dZ S0 (ik nm l) (n+19))):
 Qo zP 18 #[dp,K] w (IU w dp B c d (ik nm l)):=by
 have S:=zh (And.intro b3 b4);have T:=jJ 90;clear b3 b4;go_enter func18,ntmps18;go_wp2_with fail;have M:=iZ o;rw[b2.blocks] at M;refine M.mono ?_;clear M;rintro x w1 ⟨rfl,U⟩;have W:=zh U;clear U;go_wp2_with fail;refine(T w1 zd).mono ?_;rintro x b5 ⟨rfl,X⟩;rw[show pa 90= .agg #[(90:Int),(2:Int),(18:Int),(28:Int),(10:Int),(38:Int),(26:Int)] from rfl];have B2:=W.trans (X.mono W.size);clear X T;go_wp2_with fail;have r:=zh (show Qr w.heap.size w (b5.alloc (.cells #[(90:Int),(2:Int),(18:Int),(28:Int),(10:Int),(38:Int),(26:Int)] 75)) from ai B2 ze);have N:0<w.heap.size:=No d0 b0.1;refine(FJ 26 m K nm l _ zd c6 c7 c8 ((r.cell (p:=⟨0,0,none⟩) N).trans c9) (No N r.size)).mono ?_;rintro x O ⟨b,rfl,b6,b7,b8⟩;have s:=r.trans (b8.mono r.size);have v:=zh (show bJ O b (ik nm l) from b6);have y:=zh (show∀k,b.own k->w.heap.size<=k from λk a=>Nq r.size (b7 k a));clear N;go_wp2_with fail;have P:Qs (∀k,cL O dp k↔cL w dp k):=(o.ch_ (F:=λ_=>False) b1 (Ch.fresh s) λ_ _ e=>e).2;have Y:=Gi (n:=n) (b0.fresh s) v (o.step s) b1 (λk a f=>by have A:=o.own_lt ((P k).1 f);have C:=y k a;omega) (λk a=>c5 k ((P k).1 a)) b2 S.1 S.2 rfl d1;refine Y.mono ?_;clear Y;rintro x g ⟨q,S0,S',rfl,D,Z,a0,E,L,V,a1,a2,H,a3,t,A,C,a4⟩;have a5:=zh (show KW dp B c d (ik nm l) S' from⟨S0,E,L,V,a1,a2,H,a3,t,A,C,a4⟩);have I:=zh Z;have a6:=zh a0;have i:=zh D;obtain⟨d2,d3,d4,d5,d6,d7,d8,d9,e0,e1,e2,e3,b9,e4⟩:=D.cells;have e5:=aa D.blk;have a7:=zh (show rl S'.lg= .pointer (some ⟨H,0,none⟩) by rw[t];rfl);rw[a7] at b9;clear D Z a0 E t A C a4;go_wp2;go_ret2;have J: ∀k,cL O dp k↔cL w dp k:=P;have a8:S'.dp=dp:=by obtain⟨S0,E,L,V,a1,a2,H,a3,t,-⟩:=a5.out;rw[t];exact E.1
 obtain⟨Q,R⟩:=zx (g.alloc (.cells (jC S'++(([.pointer (some ⟨b.s,0,none⟩),.bool true]:List Qn)++ [])).toArray 82));have j:Qr g.heap.size g Q:=by rw[R];exact ak _ _
 have a9:bJ g b (ik nm l):=v.step I.size λk a=>I.block k (v.lt a) λf=>by have A:=o.own_lt ((J k).1 f);have C:=y k a;omega
 have c1:=i.below j
 have c2:bB Q g.heap.size [] 82 S' b (ik nm l):=by
  refine⟨c1.copy (by rw[R];exact Nu _ _) (λk a f=>?_),a9.below j,λk a f=>?_⟩
  ·rcases a with a|a
   ·have:=i.lt a;omega
   ·have:=i.disk.own_lt ((i.own_below j k).1 a);omega
  ·have e6:=a9.lt a
   have h:S'.ext q k\/cL g S'.dp k:=by
    rcases f with f|f
    ·refine .inl ?_
     rcases f with f|f
     ·omega
     ·exact .inr f
    ·exact .inr ((i.own_below j k).1 f)
   rw[a8] at h;rcases a6.out k h with u|u
   ·have e7:=o.own_lt ((J k).1 u)
    have e8:=y k a;omega
   ·have:=v.lt a;omega
 have c3:Q=g.alloc (.cells #[(90:Int),(2:Int),(18:Int),(28:Int),(10:Int),(38:Int),(26:Int),S'.dp,.int .u64 S'.gen,.int .u64 S'.id,.map (some S'.pm),S'.bk,H,(S'.bad:Int),b.s,true] 82):=by rw[R,<-a7];rfl
 rw[<-c3];refine⟨g.heap.size,S',b,rfl,c2,?_,λk a=>?_,a5⟩
 ·have c4:Ch (cL w dp) w g:=(Ch.fresh s).trans (I.mono λk _ a=>(J k).1 a)
  exact c4.trans (Ch.fresh j)
 ·rcases a with a|a
  ·have h:(S'.ext q k\/cL g dp k)\/k=g.heap.size:=by
    rcases a with a|a
    ·rcases a with a|a
     ·exact .inr a
     ·exact .inl (.inl (.inr a))
    ·refine .inl (.inr ?_)
     rw[<-a8];exact(i.own_below j k).1 a
   have e9:=I.size;have f0:=s.size;rcases h with h|h
   ·rcases a6.out k h with u|u
    ·exact .inl ((J k).1 u)
    ·exact .inr zo
   ·exact .inr zo
  ·exact .inr (y k a)
end
def JH(G:LV)(L:List ByteArray)(j:Nat):ByteArray:=L.getD j ByteArray.empty
def uy(G:LV)(d:DV)(s:ByteArray):DV:=pB d (G.frm+G.used) (JH G (fe G.gen G.recs s)) (fd s.size)
def rr(G:LV)(s:ByteArray):LV:={G.at (fd s.size) with recs:=G.recs+1}
structure kg(G:LV)(s:ByteArray):Prop where
 bad:G.bad=0
 frm:G.frm=2
 n:G.n=16
 used:0<=G.used
 room:G.used+fd s.size<=16
 recs:0<=G.recs/\G.recs<=1000
 gen:0<=G.gen/\G.gen<=18446744073709551615
 size:s.size<=3000
section
variable{w w' w1:Qm}{e q t c':Nat}{r rest:List Qn}{T:Qp}{S S' S1:aM}{b b' b1:SB}{σ σ' σ1:au}{n:Int}{d d':DV}{G G':LV}{s:ByteArray}{L:List ByteArray}
def Gk(a:DG d n)(c: ∀k,k<L.length->(JH G L k).size=256)(h:0<=G.frm+G.used): ∀k:Nat,k<=L.length->G.frm+G.used+k<=90->jw G L d k=(pB d (G.frm+G.used) (JH G L) k,k,0)
 |0,_,_=>rfl
 |k+1,i,j=>by
  have e:=Gk a c h k zo zo;unfold jw;rw[e];have f:=a.many (k:=G.frm+G.used) (JH G L) k;have g:=f.write (k:=G.frm+G.used+k) (s:=JH G L k) zo (c k zo);dsimp only;rw[NB zm,(zo:G.frm+(G.used+(k:Int))=G.frm+G.used+k),show L.getD k ByteArray.empty=JH G L k from rfl,g];rfl
def kh(e:DG d n)(a:kg G s):G.App d [s]=(uy G d s,rr G s,0)/\DG (uy G d s) (n+16):=by
 have g:=a.bad;have h:=a.room;have i:=a.used;have j:=a.frm;have l:=a.n;have m:=a.size;refine⟨?_,(e.many (k:=G.frm+G.used) (JH G (fe G.gen G.recs s)) (fd s.size)).mono zo⟩;unfold LV.App;rw[NB zo];show(if (eA G d [s] 0).2.2≠0 then eA G d [s] 0 else(eA G d [s] 0).2.1.app (eA G d [s] 0).1 ([s].getD 0 ByteArray.empty))=_;rw[NB (by simp[eA])];show G.app d s=_;unfold LV.app;rw[NB zo,NB (by unfold LV.left;omega)];have f:=Gk (G:=G) (L:=fe G.gen G.recs s) e (λk c=>iI G.gen G.recs s _ (by unfold JH;rw[Nr,Np c];exact NT c)) zo (fd s.size) (by rw[mf];exact Nt _) zo;rw[f];rfl
def yU(a:DG d n)(c:G.bad=0):G.flush d=(d.spent.flushed,G,0):=by
 unfold LV.flush;rw[NB zo,a.flush];dsimp only;rw[<-c]
def bD.lg_at(a:bD w q rest T S)(c:S.lg=some (t,G)):fm {w with heap:=#[]} w S.B S.dp S.c S.d t G:=
 ⟨a.disk,⟨a.nd t (.inr (.inr (.inr ⟨(t,G),c,rfl⟩))),a.log (t,G) c⟩,⟨rfl,rfl,rfl,Nx _,λk d=>absurd d (Oy k)⟩,⟨Nx _,Nx _⟩⟩
def bD.lgTo(f:bD w q rest T S)(u:S.lg=some (t,G))(j:fm {w with heap:=#[]} w' S.B S.dp c' d' t G')(l:gv S.dp t w w')(a:d'.keep= []):bz w q rest T S w' {S with c:=c',d:=d',lg:=some (t,G')}:=by
 have v:S.logb t:=⟨(t,G),u,rfl⟩
 have h: ∀k,S.logb k↔k=t:=λk=>⟨λ⟨x,g,e⟩=>by
  have g:S.lg=some x:=g;rw[u] at g;injection g with g
  rw[e,<-g],λe=>by rw[e];exact v⟩
 have i: ∀k,aM.logb {S with c:=c',d:=d',lg:=some (t,G')} k↔k=t:=λk=>⟨λ⟨x,g,e⟩=>by
  have g:some (t,G')=some x:=g;injection g with g
  rw[e,<-g],λe=>by rw[e];exact⟨(t,G'),rfl,rfl⟩⟩
 have r:Ch (λk=>cL w S.dp k\/k=t) w w':=⟨j.bel.os,j.bel.tape,j.bel.output,l.size,λk a y=>l.block k a (λe=>y (.inl e)) λe=>y (.inr e)⟩;have s: ∀k,k<w.heap.size-> ¬cL w S.dp k->k≠t->w'.heap[k]?=w.heap[k]?:=l.block
 have g: ∀k,aM.ext {S with c:=c',d:=d',lg:=some (t,G')} q k->S.ext q k:=λk a=>by
  rcases a with a|a|a|a
  ·exact .inl a
  ·exact .inr (.inl a)
  ·exact .inr (.inr (.inl a))
  ·exact .inr (.inr (.inr ((h k).2 ((i k).1 a))))
 have m: ∀k,S.still k-> ¬(cL w S.dp k\/k=t):=λk a e=>by
  rcases e with e|e
  ·exact f.nd k (.inr (.inr (.inl a))) e
  ·exact f.ng k ((h k).2 e) a
 have A: ∀k,S.V.own S.bk k->k≠t:=λk a e=>f.nl k (.inr ((h k).2 e)) a
 have B:jC {S with c:=c',d:=d',lg:=some (t,G')}=jC S:=by unfold jC;rw[u];rfl
 refine⟨⟨(s q (f.lt (.inl rfl)) (f.nd q (.inl rfl)) λe=>f.nq t (.inr (.inr v)) e.symm).trans (by rw[B];exact f.blk),j.disk,a,f.led.step λk a=>s k (f.led.lt k a) (f.nd k (.inr (.inl a))) (A k a),f.mp.step (s _ f.mp.lt (λe=>m _ (.inl rfl) (.inl e)) λe=>m _ (.inl rfl) (.inr e)),
  λp n=>⟨(f.rows p n).1.ch r λk a=>m k (.inr ⟨p,n,.inl a⟩),(f.rows p n).2.ch_ r λk a=>m k (.inr ⟨p,n,.inr a⟩)⟩,λx g=>?_,λk a o=>?_,λk a=>?_,λk a=>?_,λk a=>f.ng k ((h k).2 ((i k).1 a))⟩,λk a=>?_,r.mono λk _ a=>?_⟩
 ·have g:some (t,G')=some x:=g
  injection g with g
  rw[<-g];exact j.bes.2
 ·rcases l.own k o with o|o
  ·exact f.nd k (g k a) o
  ·have:=f.lt (g k a);omega
 ·rcases a with a|a|a
  ·exact f.nq k (.inl a)
  ·exact f.nq k (.inr (.inl a))
  ·exact f.nq k (.inr (.inr ((h k).2 ((i k).1 a))))
 ·rcases a with a|a
  ·exact f.nl k (.inl a)
  ·exact f.nl k (.inr ((h k).2 ((i k).1 a)))
 ·rcases a with a|a|a|a
  ·exact .inl (.inl a)
  ·exact(l.own k a).imp (λe=> .inr (.inl e)) id
  ·exact .inl (.inr (.inr (.inl a)))
  ·exact .inl (.inr (.inr (.inr ((h k).2 ((i k).1 a)))))
 ·rcases a with a|a
  ·exact .inr (.inl a)
  ·exact .inr (.inr (.inr ((h k).2 a)))
def Bd(w:Qm)(e:Nat)(r:List Qn)(T:Qp)(S:aM)(b:SB)(σ:au)(t c':Nat)(d':DV)(G':LV)(x:Qq)(w':Qm):Prop:=
 x= .returned (.int .i64 0)/\Qs (bZ w e r T S b w' {S with c:=c',d:=d',lg:=some (t,G')} b σ)
def wH{v:Qn}{d k:Int}{l:List ba}(H:Qs (bB w e r T S b σ))(g:Qs (S.lg=some (t,G)))(A:Qs (aB 3 ba.cells w v l))(a5:Qs (lz d k l))(a:Qs (kg G (aO (HF d k l))))(Q:Qs (DG S.d n))(R:n<=1000000000)(U:S.c<=900000):
 Qo zP 23 #[e,.agg #[d,k,v]] w (Bd w e r T S b σ t (S.c+14) (uy G S.d (aO (HF d k l))) (rr G (aO (HF d k l)))):=by
 have B:=zh (And.intro R U);obtain⟨va,vc,rfl,-,-⟩:=id A;obtain⟨C,V⟩:=zy l.length;have h:=aa H.sto.blk;clear R U;rw[<-V] at A⊢;have W:=zh (show aB 3 ba.cells w (.slice va C vc) l from A);go_enter func23,ntmps23;go_wp2_with fail;refine zb (yo (W.below ze) a5) λw1 X=>?_
 have i:=ai (ak w (.cells #[d,k,.slice va C vc] 85)) X;obtain⟨j,D⟩:=zy (aO (HF d k l));rw[<-D] at a⊢;have E:=H.below i;clear h;have h:=aa E.sto.blk;go_wp2_with fail;refine zb (wA E.sto) λF Y=>?_
 rw[show rl S.lg= .pointer (some ⟨t,0,none⟩) by rw[g];rfl];have B2:=i.trans (Y.mono i.size);have I:=H.below B2;clear h;go_wp2_with fail;have J:=zh (show Qr w.heap.size w (F.alloc (.cells #[j] 9)) from ai B2 ze);have p:=H.below J;obtain⟨K,L⟩:=kh Q a
 have M:G.fit 1000:=by
  have a6:=a.used;have q:=a.room;have a7:=a.frm;have a8:=a.n;have a9:=a.recs;have Z:=a.gen;exact⟨⟨zo,zo,zo,zo,Z⟩,zo,zo⟩
 have a0:=I.sto.lt (k:=t) (.inr (.inr (.inr ⟨(t,G),g,rfl⟩)))
 have s:=Ii (.slice (some ⟨F.heap.size,0,none⟩) (1:Nat) 1) [j] 1000 (p.sto.lg_at g) M (by show(1000:Int)+1<=900000;decide) ⟨cG (l:= [j]) rfl rfl (λz u=>by obtain rfl:=Nz.1 u;have:=a.size;omega) ⟨Nt 1,zd⟩,λb o z m c f _=>by
  injection f with f
  injection f with f
  injection f with a1
  rw[<-a1];exact⟨ko I.sto.disk ze zl,zo⟩⟩ (λz u=>by obtain rfl:=Nz.1 u;have:=a.size;omega) (by have:=B.out;simp;omega) (by have:=Q.writes;have:=B.out;omega)
 rw[K] at s;refine s.mono ?_;clear s K M a0;rintro x b0 ⟨rfl,N,O⟩;have y:=p.sto.lgTo g N O L.keep;have P:=zh ((bZ.refl H J).trans (p.sto' y λk a2=>y.ext_ rfl rfl a2));clear N O L y;go_wp2_with fail;refine zb (nV P.at_) λb1 a3=>?_
 have a4:=P.fresh a3;go_wp2;go_ret;refine⟨rfl,?_⟩;have q:=a4;rw[D] at q;exact q
def lI(H:Qs (bB w e r T S b σ))(m:S.lg=some (t,G))(o:G.bad=0)(p:DG S.d n)(q:n<=1000000000)(s:S.c<=1000000):
 Qo zP 24 #[e] w (Bd w e r T S b σ t S.c S.d.spent.flushed G):=by
 have a:=zh m;have u:=zh o;have c:=zh p;have h:=zh (And.intro q s);have v:=aa H.sto.blk;clear m o p q s;go_enter func24,ntmps24;go_wp2_with fail;refine zb (wA H.sto) λC B2=>?_
 rw[show rl S.lg= .pointer (some ⟨t,0,none⟩) by rw[a];rfl];have d:=H.below B2;clear v;go_wp2_with fail;have f:=xX (d.sto.lg_at a) h.2 (by have:=c.writes;have:=h.out;omega);rw[yU c u] at f;refine f.mono ?_;clear f;rintro x D ⟨rfl,i,j⟩;have g:=d.sto.lgTo a i j c.after.keep;have l:=zh ((bZ.refl H B2).trans (d.sto' g λk y=>g.ext_ rfl rfl y));clear i j g;go_wp2_with fail;refine zb (nV l.at_) λE A=>?_
 have B:=l.fresh A;go_wp2;go_ret;exact⟨rfl,B⟩
end
def uW(a k:Int)(l:List ba):ByteArray:=aO (HF a k l)
section
variable{w w' w1:Qm}{e q t c':Nat}{r rest:List Qn}{T:Qp}{S S' S1:aM}{b b' b1:SB}{σ σ' σ1:au}{n:Int}{d d':DV}{G G':LV}{s:ByteArray}{L:List ByteArray}
def Gl(w:Qm)(e:Nat)(r:List Qn)(T:Qp)(S:aM)(b:SB)(σ':au)(t:Nat)(d':DV)(G':LV)(v:Qn)(x:Qq)(w':Qm):Prop:=
 x= .returned v/\ ∃b',b'.s=b.s/\bZ w e r T S b w' {S with c:=S.c+14,d:=d',lg:=some (t,G')} b' σ'
def Dh(H:Qs (bB w e r T S b σ))(L:Qs (S.lg=some (t,G)))(k:Int)(f:Qs (kg G (uW 2 k [])))(m:Qs (DG S.d n))(p:n<=900000000)(q:S.c<=900000)
 (M:Qs σ.ok) (N:Qs (σ.sh=none)) (O:Qs (∀o∈σ.τ.tabs,o=none)) (s:Qs (0<=k)) (u:Qs (0<=σ.τ.r.now/\σ.τ.r.now+k<=1099511627776)):
 Qo zP 6 #[e,k] w (Gl w e r T S b {σ with τ:=⟨{σ.τ.r with now:=σ.τ.r.now+k},σ.τ.tabs⟩} t (uy G S.d (uW 2 k [])).spent.flushed (rr G (uW 2 k [])) (.int .i64 0)):=by
 have a:=zh (And.intro p q);clear p q;go_enter func6,ntmps6;go_wp2_with fail;refine zb (jn H) λw1 g=>?_
 have c:=H.below g;obtain⟨c0,y⟩:=c.ecells;have A:=aa c.sto.blk;clear y;go_wp2_with fail;refine(CM c.st M N O k s u).mono ?_;rintro x P ⟨B,rfl,d,C,D,E⟩;have E2:=zh ((bZ.refl H g).trans (c.st' d C D E));have F:=zh d;clear d c0 A;go_wp2_with fail;have h:lz 2 k []:= .inr ⟨rfl,s,by have:=u.out;omega,rfl⟩;refine(wH (l:= []) (v:= .slice none 0 0) E2.at_ L (eO _ _ _) h f m (by have:=a.out;omega) a.2).mono ?_;rintro x Q ⟨rfl,I⟩;have i:=E2.trans I;clear h;go_wp2_with fail;have j:=(kh m f).2;refine(lI i.at_ rfl (by show(rr G _).bad=0;exact f.bad) j (by have:=a.out;omega) (by have:=a.out;show S.c+14<=_;omega)).mono ?_;rintro x R ⟨rfl,J⟩;have K:=i.trans J;clear j;go_wp2;go_ret;exact⟨rfl,B,F,K⟩
def pE(w:Qm)(e:Nat)(r:List Qn)(T:Qp)(S:aM)(b:SB)(σ':au)(v:Qn)(x:Qq)(w':Qm):Prop:=
 x= .returned v/\ ∃(b':SB) (L:List aA) (V:dn) (m l t c:Nat),b'.s=b.s/\Qs (bZ w e r T S b w' {S with gen:=S.gen+1,id:=(bm S σ').id,ps:=L,pm:=m,bk:=l,V:=V,c:=c,d:=dz S σ',lg:=some (t,LV.new 2 16 (S.gen+1))} b' σ')/\L.map aA.pp=(bm S σ').out/\V.pure=hR (bm S σ').out/\c<=S.c+31
def oN{B:Nat}(c:Qs (cl B w))(H:Qs (bB w e r T S b σ))(A:Qs (∀k,EF w e S b k->B<=k))(d nm:ByteArray)(l:List ah)(m:Int)(C:fR d nm l)(D:cD nm l=true)(E:d.size<=1000000)(a1:Qs (w.cell? ⟨0,0,none⟩=some (.int .i64 m)))(a2:Qs (0<B))
 (a3:Qs σ.ok) (a4:Qs (σ.sh=none)) (a5:Qs ((bh σ.τ.r nm l).can σ.τ)) (a6:Qs (cz σ.τ.tabs σ.τ.tabs.length+cw σ.τ (bh σ.τ.r nm l)<=σ.room)) (F:dZ S {σ with sh:=some (el.empty (bh σ.τ.r nm l) (cw σ.τ (bh σ.τ.r nm l)) 0)} n) (a7:Qs (S.bad=0)) (a8:Qs (σ.room=26)):
 Qo zP 25 #[e,d] w (pE w e r T S b {σ with sh:=some (el.empty (bh σ.τ.r nm l) (cw σ.τ (bh σ.τ.r nm l)) 0)} (.tuple #[(),()])):=by
 have f:=zh (And.intro C (And.intro D E));have I:=zh F;clear C D E F;go_enter func25,ntmps25;go_wp2_with fail;refine zb (jn H) λw1 g=>?_
 have a:=H.below g;obtain⟨c0,J⟩:=a.ecells;have K:=aa a.sto.blk;clear J;go_wp2_with fail;have j:0<w.heap.size:=No a2 c.1;refine(we a.st a3 a4 d nm l m f.1 f.2.1 f.2.2 ((g.cell (p:=⟨0,0,none⟩) j).trans a1) a5 a6).mono ?_;rintro x o ⟨q,rfl,h,M,N,O⟩;have E2:=zh ((bZ.refl H g).trans (a.st' h M N O));have P:=zh h;clear h c0 K j;go_wp2_with fail;have s: ∀k,EF o e S q k->B<=k:=λk Q=>(E2.own k Q).elim (A k) λR=>Nq c.1 R
 have t:cl B o:=c.step (E2.ch.below A c.1);refine(tm t E2.at_ s I a7 a8).mono ?_;rintro x a9 ⟨rfl,L,V,U,W,X,Y,Z,u,v,y⟩;have a0:=E2.trans Z;have i:=zh (And.intro u (And.intro v y));clear u v y s t;go_wp2;go_ret2;exact⟨rfl,q,L,V,U,W,X,Y,P,a0,i.1,i.2.1,i.2.2⟩
end
section
variable{w w' w1:Qm}{e q t c':Nat}{r rest:List Qn}{T:Qp}{S S' S1:aM}{b b' b1:SB}{σ σ' σ1:au}{n:Int}{d d':DV}{G G':LV}{s:ByteArray}{L:List ByteArray}
def bZ.out_{k:Nat}(a:bZ w e r T S b w' S' b' σ')(f:k<w.heap.size)(c: ¬EF w e S b k):w'.heap[k]?=w.heap[k]?/\ ¬EF w' e S' b' k:=
 ⟨a.ch.block k f c,λd=>(a.own k d).elim c λg=>zo⟩
def bZ.aside{F:Nat->Prop}(c:bZ w e r T S b w1 S1 b1 σ1)(d:Ch F w1 w')(i: ∀k,F k->w.heap.size<=k/\ ¬EF w1 e S1 b1 k):bZ w e r T S b w' S1 b1 σ1:=by
 have f: ∀k,EF w1 e S1 b1 k-> ¬F k:=λk a j=>(i k j).2 a
 have h:=(c.at_.sto.disk.ch_ c.at_.sto.keep d λk a=>f k (.inl (.inr a))).2;refine⟨⟨c.at_.sto.ch d λk a=>f k (.inl a),c.at_.st.step d.size λk a=>d.block k (c.at_.st.lt a) (f k (.inr a)),λk a g=>c.at_.ap k a (g.imp id (h k).1)⟩,λk a=>c.own k (a.imp (λa=>a.imp id (h k).1) id),?_⟩
 exact⟨d.os.trans c.ch.os,d.tape.trans c.ch.tape,d.output.trans c.ch.output,Nq c.ch.size d.size,λk a l=>(d.block k (No a c.ch.size) λg=>by
  have:=(i k g).1;omega).trans (c.ch.block k a l)⟩
def tp{B:Nat}{x y z:Int}(R:Qs (cl B w))(H:Qs (bB w e r T S b σ))(a8:Qs (∀k,EF w e S b k->B<=k))(s: ∀w1,bJ w1 b σ->Qo zP 77 #[b.s] w1 (fy w1 b σ' (.tuple #[.agg #[x,y,z],()])))
 (d2:Qs (dZ S σ' n)) (d3:Qs (S.bad=0)) (d4:Qs (σ'.room=26)):
 Qo zP 28 #[e] w (pE w e r T S b σ' (.tuple #[.agg #[x,y,z],()])):=by
 have a9:=zh s;clear s;go_enter func28,ntmps28;go_wp2_with fail;obtain⟨a,h⟩:=zx w.heap.size;obtain⟨C,i⟩:=zx (w.alloc (.cells #[(),(),()] 97));have b0:=zh (show C.heap[a]?=some (.cells #[(),(),()] 97) by rw[i,h];exact Nu _ _);have j:Qr w.heap.size w C:=by rw[i];exact ak _ _
 have D:=H.below j;have B0:=zh j;have b1:=zh (show¬EF C e S b a from λc=>by have:=H.lt (H.ef_below j c);omega);rw[<-i,<-h];have b2:=zh h;clear i j h;refine zb (jn D) λw1 l=>?_
 have m:=D.below l;have b3:=B0.trans (l.mono B0.size);have U:=zh (ab b0 l);have b4:=zh (show¬EF w1 e S b a from λc=>b1 (D.ef_below l c));obtain⟨c0,b5⟩:=m.ecells;have b6:=aa m.sto.blk;clear b5;go_wp2_with fail;refine(a9 w1 m.st).mono ?_;rintro v p ⟨q,rfl,E,s,b7,b8⟩;have I:=m.st' E s b7 b8;have J:=I.out_ (aa U) b4;have E2:=zh ((bZ.refl H b3).trans I);have W:=J.1.trans U;have b9:=zh J.2;have c1:=zh E;clear E c0 b6 I J;go_wp2_with fail;obtain⟨K,M⟩:=zx p.heap.size;obtain⟨d,t⟩:=zx (p.alloc (.cells #[x,y,z] 97):Qm);have g:Qr p.heap.size p d:=by rw[t];exact ak _ _
 have X:d.heap[K]?=some (.cells #[x,y,z] 97):=by rw[t,M];exact Nu _ _
 have u:=E2.fresh g;have A:=zh (And.intro (ab W g) X);have Y:=zh (show¬EF d e S q a/\ ¬EF d e S q K/\a≠K from⟨λc=>b9 (E2.at_.ef_below g c),λc=>by have:=E2.at_.lt (E2.at_.ef_below g c);omega,by have:=aa W;omega⟩);rw[<-t,<-M];clear t M g X;have Z: ∀k,EF d e S q k->B<=k:=λk N=>(u.own k N).elim (a8 k) λc2=>Nq R.1 c2
 have a0:cl B d:=R.step (u.ch.below a8 R.1);refine(tm a0 u.at_ Z d2 d3 d4).mono ?_;rintro v a1 ⟨rfl,L,V,c3,c4,c5,c6,O,a2,a3,a4⟩;have P:=O.out_ (aa A.1) Y.1;have a5:=O.out_ (aa A.2) Y.2.1;have c7:=u.trans O;have Q:=zh (And.intro a2 (And.intro a3 a4));have f:=zh (And.intro (P.1.trans A.1) (a5.1.trans A.2));have c8:=zh P.2;clear a2 a3 a4 Z a0 P a5;obtain⟨d5,d6,d7⟩:=aW f.1;obtain⟨d8,d9,e0⟩:=aW f.2;have e1:=aa f.1;have e2:=aa f.2;have e3:=λo=>ad (o:=o) f.1
 go_wp2_with fail;have a6:=bW (.int .i64 x) (.int .i64 y) (.int .i64 z) f.1;obtain⟨c9,a7⟩:=zx (((a1.setCell ⟨a,0,none⟩ (.int .i64 x)).setCell ⟨a,1,none⟩ (.int .i64 y)).setCell ⟨a,2,none⟩ (.int .i64 z))
 have d0:Ch (·=a) a1 c9:=by
  rw[a7]
  iterate 3 refine aP ?_ (.inl rfl)
  exact Ch.refl _ _
 rw[<-a7] at a6⊢
 have d1:=c7.aside (F:=(·=a)) d0 λk N=>by
  rw[N];exact⟨by have:=b2.out;omega,c8⟩
 refine NG (v:= .tuple #[.agg #[x,y,z],()]) (aJ results28 _ _ _ _ _ _ _ _ rfl rfl a6 underlying97 rfl zk) rfl ⟨rfl,q,L,V,c3,c4,c5,c6,c1,d1,Q.1,Q.2.1,Q.2.2⟩
end
section
variable{w w' w1:Qm}{e q t c':Nat}{r rest:List Qn}{T:Qp}{S S' S1 S2:aM}{b b' b1:SB}{σ σ' σ1:au}{n:Int}{d d':DV}{G G':LV}{s:ByteArray}{L:List ByteArray}
def jo(w:Qm)(e:Nat)(r:List Qn)(T:Qp)(S:aM)(b:SB)(S1:aM)(σ1:au)(v:Qn)(x:Qq)(w':Qm):Prop:=
 x= .returned v/\ ∃b1,b1.s=b.s/\Qs (bZ w e r T S b w' S1 b1 σ1)
def IV(H:Qs (bB w e r T S b σ))(h:Qs σ.ok)(i:Qs (aQ σ.τ.r.now))(v:Qn)(x:ba)(a:Qs (aB 3 ba.cells w v [x]))(j:Qs (x.name.size<=9223372036854775807/\aQ x.time/\aQ x.value))(k:Int)(l:Qs (σ.τ.r.takes x.name x.time=k))(m:k≠0):
 Qo zP 82 #[e,v] w (jo w e r T S b S σ (.tuple #[k,false])):=by
 obtain⟨va,vc,rfl,-,-⟩:=id a;obtain⟨c0,c⟩:=H.ecells;have d:=aa H.sto.blk;clear c;go_enter func82,ntmps82;go_wp2_with fail;refine zb (IC H.st h i _ x a j k l m) λw1 f=>?_
 have g:=bZ.refl H f;clear c0 d;go_wp2;go_ret2;exact⟨rfl,b,rfl,g⟩
def tq(σ:au)(x:ba):au:={σ with τ:=⟨σ.τ.r,dG σ.τ.r x σ.τ.r.l.length σ.τ.r.l.length⟩}
def wI(H:Qs (bB w e r T S b σ))(U:Qs σ.ok)(V:Qs (σ.sh=none))(W:Qs (aQ σ.τ.r.now))(X:Qs (∀k,k<σ.τ.r.l.length->aQ (σ.τ.r.l.getD k ah.zero).every/\1<=(σ.τ.r.l.getD k ah.zero).every))(Y:Qs (σ.τ.tabs=List.replicate σ.τ.r.l.length none))(v:Qn)(x:ba)(g:Qs (aB 3 ba.cells w v [x]))(Z:Qs (∀j,aD v j-> ¬EF w e S b j))
 (a0:Qs (x.name.size<=9223372036854775807/\aQ x.time/\aQ x.value)) (o:σ.τ.r.takes x.name x.time=0) (p:Qs x.good) (q:cz (dG σ.τ.r x σ.τ.r.l.length σ.τ.r.l.length) σ.τ.r.l.length<=σ.room) (s:S.lg=some (t,G)) (u:kg G (uW 1 0 [x])) (A:DG S.d n) (B:n<=900000000) (C:S.c<=900000):
 Qo zP 82 #[e,v] w (jo w e r T S b {S with c:=S.c+14,d:=uy G S.d (uW 1 0 [x]),lg:=some (t,rr G (uW 1 0 [x]))} (tq σ x) (.tuple #[(),false])):=by
 have D:=zh o;have E:=zh q;have a:=zh (And.intro s (And.intro u (And.intro A (And.intro B C))));obtain⟨va,vc,rfl,-,-⟩:=id g;obtain⟨c0,F⟩:=H.ecells;have I:=aa H.sto.blk;clear o q s u A B C F;go_enter func82,ntmps82;go_wp2_with fail;refine(FK H.st U V W X Y _ x g a0 D p E).mono ?_;rintro y w1 ⟨b1,rfl,f,J,K,h⟩;have i:=H.st' f J K h;have L:=zh f;have M:=g.ch h λj N O=>Z j N (.inr O)
 clear f c0 I;go_wp2_with fail;have m:lz 1 0 [x]:= .inl ⟨rfl,rfl,Nt 1,by show 1<=8;decide,λz P=>by obtain rfl:=Nz.1 P;exact p⟩;refine(wH (l:= [x]) i.at_ a.1 M m a.2.1 a.2.2.1 (by have:=a.2.2.2.1;omega) a.2.2.2.2).mono ?_;rintro y a1 ⟨rfl,Q⟩;have R:=i.trans Q;clear m;go_wp2;go_ret2;exact⟨rfl,b1,L,R⟩
def wM(z:Qn):madeCells #[z] 1=#[z]:=by
 refine Array.ext (by simp[madeCells]) λi d a=>?_
 have c:i=0:=by simp at a;omega
 subst c;simp[madeCells]
def Gm:(zP.info? 26).map (λi=>(i.zero,i.size,i.bytes))=some (some (.int .i64 0),1,8):=zk
def Di:(zP.info? 4).map (λi=>(i.zero,i.size,i.bytes))=some (some (.bool false),1,1):=zk
def IW(w:Qm)(e:Nat)(r:List Qn)(T:Qp)(S:aM)(b:SB)(S2:aM)(σ1:au)(k:Int)(x:Qq)(w':Qm):Prop:=
 ∃a,x= .returned (.slice (some ⟨a,0,none⟩) (1:Nat) (1:Nat))/\w'.cell? ⟨a,0,none⟩=some (.int .i64 k)/\a<w'.heap.size/\ ∃b1,b1.s=b.s/\bZ w e r T S b w' S2 b1 σ1
def yV{k:Int}{g:Nat}{va:Option Addr}{vn vc:Nat}(f:bB w e r T S b σ)(a1:w.cell? ⟨g,0,none⟩=some (.slice va vn vc))(c5: ¬EF w e S b g)
 (c6: ∀w1,Qr w.heap.size w w1->bB w1 e r T S b σ->Qo zP 82 #[.pointer (some ⟨e,0,none⟩),.slice va vn vc] w1 (jo w1 e r T S b S1 σ1 (.tuple #[.int .i64 k,.bool false])))
 (c7:k=0-> ∀X b1,bB X e r T S1 b1 σ1->Qo zP 24 #[.pointer (some ⟨e,0,none⟩)] X (λx D=>x= .returned (.int .i64 0)/\bZ X e r T S1 b1 D S2 b1 σ1)) (c8:k≠0->S2=S1):
 Qo zP 37 #[.pointer (some ⟨e,0,none⟩),.slice (some ⟨g,0,none⟩) (1:Nat) (1:Nat)] w (IW w e r T S b S2 σ1 k):=by
 have H:=zh f;have c9:=zh c6;have d0:=zh c7;have d1:=zh c8;have e3:=zh c5;have N:=Nv w _ a1;dsimp only at N
 have d2: ∀w:Qm,(Instr.makeSlice 106 (.int .i64 1) (.int .i64 1)).run zP w= .ok (.slice (some ⟨w.heap.size,0,none⟩) 1 1) (w.alloc (.cells #[.int .i64 0] 26)):=λw=>by
  have f:=run_make_row' (P:=zP) 106 26 (.int .i64 0) 8 underlying106 Gm rfl .i64 .i64 1 zo zo w;rw[show madeCells #[Value.int .i64 0] 1=#[.int .i64 0] from wM _] at f;exact f
 have d3: ∀w:Qm,(Instr.makeSlice 170 (.int .i64 1) (.int .i64 1)).run zP w= .ok (.slice (some ⟨w.heap.size,0,none⟩) 1 1) (w.alloc (.cells #[.bool false] 4)):=λw=>by
  have f:=run_make_row' (P:=zP) 170 4 (.bool false) 1 underlying170 Di rfl .i64 .i64 1 zo zo w;rw[show madeCells #[Value.bool false] 1=#[.bool false] from wM _] at f;exact f
 clear f c6 c7 c8 c5;go_enter func37,ntmps37;go_wp2_with fail;obtain⟨a,E⟩:=zx (w.heap.size:Nat);obtain⟨u,F⟩:=zx ((w.alloc (.cells #[.int .i64 0] 26)).alloc (.cells #[.bool false] 4):Qm);have s:Qr w.heap.size w u:=by rw[F];exact ai ze ze
 have a2:=zh (show u.heap[a]?=some (.cells #[.int .i64 0] 26)/\u.heap[a+1]?=some (.cells #[.bool false] 4) from⟨by rw[F,E];exact ab (Nu _ _) ze,by rw[F];exact ag zu⟩);have O:=H.below s;have B0:=zh s;have a3:=zh (show¬EF u e S b a/\ ¬EF u e S b (a+1) from⟨λc=>by have:=H.lt (H.ef_below s c);omega,λc=>by have:=H.lt (H.ef_below s c);omega⟩);have d4:=(s.cell (p:=⟨g,0,none⟩) N).trans a1;have d5:g<u.heap.size:=No N s.size;have a4:w.heap.size+1=a+1:=by rw[E]
 rw[<-F,a4,<-E];have a5:=zh E;clear d2 d3 F s E a4 a1 N;refine NM 2 ?_;rw[NF];go_wp2_with fail;refine zb (jn O) λw1 v=>?_
 have d6:=O.below v;have a6:=B0.trans (v.mono B0.size);have Q:=zh (And.intro (ab a2.1 v) (ab a2.2 v));have a7:=zh (show¬EF w1 e S b a/\ ¬EF w1 e S b (a+1) from⟨λc=>a3.1 (O.ef_below v c),λc=>a3.2 (O.ef_below v c)⟩);clear d4 d5;go_wp2_with fail;refine(c9 w1 a6 d6).mono ?_;rintro y h ⟨rfl,i,a8,Y⟩;have A:=Y.out_ (aa Q.1) a7.1;have B:=Y.out_ (aa Q.2) a7.2;have E2:=zh ((bZ.refl H a6).trans Y);have l:=zh (And.intro (A.1.trans Q.1) (B.1.trans Q.2));have m:=zh (And.intro A.2 B.2);have a9:=zh a8;clear a8 A B;have b0:h.cell? ⟨a,0,none⟩=some (.int .i64 0):=by rw[NA h _ _ _ _ _ l.1];rfl
 have R:h.cell? ⟨a+1,0,none⟩=some (.bool false):=by rw[NA h _ _ _ _ _ l.2];rfl
 have b2:=aa l.1;have U:=aa l.2;have b3:=λo=>ad (o:=o) l.1
 have b4:=λo=>ad (o:=o) l.2
 have d7:a+1≠a:=zo;have d8:a≠a+1:=zo
 have b5:=zh (show∀x y:Qn,bD h e ([.pointer (some ⟨i.s,0,none⟩),.bool true]++r) T S1->Ch (λk=>k=a\/k=a+1) h ((h.setCell ⟨a,0,none⟩ x).setCell ⟨a+1,0,none⟩ y)/\((h.setCell ⟨a,0,none⟩ x).setCell ⟨a+1,0,none⟩ y).heap[a]?=some (.cells #[x] 26)/\((h.setCell ⟨a,0,none⟩ x).setCell ⟨a+1,0,none⟩ y).heap[a+1]?=some (.cells #[y] 4) from λx y _=>by
  refine⟨?_,?_,?_⟩
  ·exact aP (aP (Ch.refl _ _) (.inl (.inl rfl))) (.inl (.inr rfl))
  ·rw[af _ d8,al l.1];rfl
  ·have Z:(h.setCell ⟨a,0,none⟩ x).heap[a+1]?=some (.cells #[.bool false] 4):=by rw[af _ d7];exact l.2
   rw[al Z];rfl)
 by_cases I:k=0
 ·subst I
  go_wp2_with fail;rw[NF];go_wp2_with fail;obtain⟨n,t,q⟩:=b5 (.int .i64 0) (.bool true) E2.at_.sto;obtain⟨J,K⟩:=zx ((h.setCell ⟨a,0,none⟩ (.int .i64 0)).setCell ⟨a+1,0,none⟩ (.bool true):Qm);rw[<-K] at n t q⊢
  have C:=E2.aside n λj d=>by
   have Z:=a5.out;rcases d with d|d
   ·rw[d];exact⟨zo,m.1⟩
   ·rw[d];exact⟨zo,m.2⟩
  have L:=zh (And.intro t q)
  have b6:=zh (show¬EF J e S1 i a/\ ¬EF J e S1 i (a+1) from by
   have b7:=(E2.at_.sto.disk.ch_ E2.at_.sto.keep n λj d c=>by
    rcases c with c|c
    ·rw[c] at d;exact m.1 (.inl (.inr d))
    ·rw[c] at d;exact m.2 (.inl (.inr d))).2
   exact⟨λc=>m.1 (c.imp (λf=>f.imp id (b7 _).1) id),λc=>m.2 (c.imp (λf=>f.imp id (b7 _).1) id)⟩)
  clear n t q K b0 R b2 U b3 b4;refine zb (jn C.at_) λD M=>?_
  have b8:=C.fresh M;have V:=zh (And.intro (ab L.1 M) (ab L.2 M));have b9:=zh (show¬EF D e S1 i a/\ ¬EF D e S1 i (a+1) from⟨λc=>b6.1 (C.at_.ef_below M c),λc=>b6.2 (C.at_.ef_below M c)⟩);go_wp2_with fail;refine(d0 (by first|rfl|trivial) D i b8.at_).mono ?_;rintro y c1 ⟨rfl,W⟩;have A:=W.out_ (aa V.1) b9.1;have B:=W.out_ (aa V.2) b9.2;have c2:=b8.trans W;have a0:=zh (And.intro (A.1.trans V.1) (B.1.trans V.2));clear W A B;have R:c1.cell? ⟨a+1,0,none⟩=some (.bool true):=by rw[NA c1 _ _ _ _ _ a0.2];rfl
  have U:=aa a0.2;go_wp2_with fail;refine NM 2 ?_;rw[NF];go_wp2_with fail;refine zb (jn c2.at_) λe4 c3=>?_
  have d9:=c2.fresh c3;have c4:=zh (ab a0.1 c3);clear R U;go_wp2_with fail;rw[NF];go_wp2;go_ret;exact⟨a,rfl,by rw[NA _ _ _ _ _ _ c4];rfl,aa c4,i,a9,d9⟩
 ·have e0:(k==0)=false:=by simpa using I
  have e1:decide (k=0)=false:=by simpa using I
  go_wp2_with fail;rw[NF];go_wp2_with fail;obtain⟨n,t,q⟩:=b5 (.int .i64 k) (.bool false) E2.at_.sto;obtain⟨J,K⟩:=zx ((h.setCell ⟨a,0,none⟩ (.int .i64 k)).setCell ⟨a+1,0,none⟩ (.bool false):Qm);rw[<-K] at n t q⊢
  have C:=E2.aside n λj d=>by
   have Z:=a5.out;rcases d with d|d
   ·rw[d];exact⟨zo,m.1⟩
   ·rw[d];exact⟨zo,m.2⟩
  have L:=zh t;have R:J.cell? ⟨a+1,0,none⟩=some (.bool false):=by rw[NA J _ _ _ _ _ q];rfl
  have e5:=aa q;have e2:=zh I;clear n t q K b0 b2 U b3 b4 I e0 e1;refine NM 2 ?_;rw[NF];go_wp2_with fail;rw[NF];go_wp2;go_ret;exact⟨a,rfl,by rw[NA _ _ _ _ _ _ L];rfl,aa L,i,a9,by rw[d1 e2];exact C⟩
def nW{k:Int}{va:Option Addr}{vn vc:Nat}(H:Qs (bB w e r T S b σ))
 (t:Qs (∀w1,Qr w.heap.size w w1->bB w1 e r T S b σ->Qo zP 82 #[e,.slice va vn vc] w1 (jo w1 e r T S b S1 σ1 (.tuple #[k,false]))))
 (u:Qs (k=0-> ∀d b1,bB d e r T S1 b1 σ1->Qo zP 24 #[e] d (λx o=>x= .returned (.int .i64 0)/\bZ d e r T S1 b1 o S2 b1 σ1))) (v:Qs (k≠0->S2=S1)):
 Qo zP 34 #[e,.slice va vn vc] w (jo w e r T S b S2 σ1 (.int .i64 k)):=by
 go_enter func34,ntmps34;go_wp2_with fail;obtain⟨g,f⟩:=zx (w.heap.size:Nat);obtain⟨h,c⟩:=zx (w.alloc (.cells #[.slice va vn vc] 29):Qm);have a:Qr w.heap.size w h:=by rw[c];exact ak _ _
 have i:h.heap[g]?=some (.cells #[.slice va vn vc] 29):=by rw[c,f];exact Nu _ _
 have j:=bZ.refl H a;have l:=yV (k:=k) (g:=g) (va:=va) (vn:=vn) (vc:=vc) (S2:=S2) j.at_ (by rw[NA _ _ _ _ _ _ i];rfl) (λp=>by have:=H.lt (H.ef_below a p);omega) (λw1 q s=>t w1 (a.trans (q.mono a.size)) s) u v;rw[<-c,<-f];clear c f a i;refine l.mono ?_;clear l;rintro y A ⟨B,rfl,C,D,b1,m,n⟩;have E2:=zh (And.intro m (j.trans n));clear m n;go_wp2;go_ret;exact⟨rfl,b1,E2.1,E2.2⟩
end
section
variable{w w' w1:Qm}{e q t c':Nat}{r rest:List Qn}{T:Qp}{S S' S1 S2:aM}{b b' b1:SB}{σ σ' σ1:au}
def hT(H:Qs (bB w e r T S b σ))(h:σ.ok):Qo zP 8 #[e] w (AX w σ):=by
 have c:=zh h;obtain⟨c0,i⟩:=H.ecells;have j:=aa H.sto.blk;clear h i
 have k:=zh (show Qo zP 30 #[b.s] w (AX w σ) by
  cases hs:σ.sh with
  |none=>exact CL H.st c hs
  |some x=>exact yA H.st c hs)
 go_enter func8,ntmps8;go_wp2_with fail;refine k.mono ?_;rintro x w1 ⟨b1,rfl,d,f,g⟩;have a:=zh (And.intro d (And.intro f g));clear d f g c0 j;go_wp2;go_ret;exact⟨b1,rfl,a.1,a.2.1,a.2.2⟩
end
def wN(n:Nat)(a:(97<=n/\n<=122)\/(48<=n/\n<=57)\/n=46\/n=95\/n=45):eb n=true:=by unfold eb;simp;omega
def uz(n:Nat)(a: ¬((97<=n/\n<=122)\/(48<=n/\n<=57)\/n=46\/n=95\/n=45)):eb n=false:=by unfold eb;simp;omega
def kF(s:ByteArray)(w:Qm)(u:s.size<=9223372036854775807):Qo zP 86 #[s] w (aK w (.bool (bn s))):=by
 by_cases o:s.size<1
 ·have e:(s.size:Int)<1:=zo
  go_enter func86,ntmps86;go_wp2;go_ret;exact⟨bu (by unfold bn;simp;omega),ND _ _⟩
 ·by_cases p:15<s.size
  ·have g:15<(s.size:Int):=zo
   have e:1<=(s.size:Int):=zo;go_enter func86,ntmps86;go_wp2;go_ret;exact⟨bu (by unfold bn;simp;omega),ND _ _⟩
  ·have g:(s.size:Int)<=15:=zo
   have e:1<=(s.size:Int):=zo;go_enter func86,ntmps86;go_wp2
   go_loop [3] (λi=> ∃(j:Nat),j<=s.size/\i= .int .i64 j/\Qs ((s.data.toList.take j).all (λc=>eb c.toNat)=true)) (λi=>s.size-(intOf i).toNat)
   case atStart=>exact⟨0,Nx _,rfl,zh zm⟩
   case round=>
    obtain⟨j,q,rfl,a⟩:=hrel;by_cases h:j<s.size
    ·have r:0<=(s[j].toNat:Int)/\(s[j].toNat:Int)<=255:=by have:=s[j].toNat_lt;omega
     have f:=zh (oz h)
     have k:=zh (show eb s[j].toNat=false->bn s=false by
      intro d;unfold bn;rw[Bool.and_eq_false_iff,List.all_eq_false];exact .inr ⟨s[j],by simp[NY],by simp[d]⟩)
     by_cases l:(s[j].toNat:Int)=45
     ·have m:=zh (show eb s[j].toNat=true by unfold eb;simp;omega)
      go_wp2
      go_round
      case rel=>exact⟨j+1,zo,by go_num,zh (by
       rw[f,Qi,a];simp only[PU,List.all_nil,Bool.and_true,PT];exact m)⟩
      case measure=>simp[intOf];omega
     ·have t:((s[j].toNat:Int)==45)=false:=by simpa using l
      go_wp2
      all_goals first
       |(go_round
         case rel=>exact⟨j+1,zo,by go_num,zh (by
          rw[f,Qi,a];simp only[PU,List.all_nil,Bool.and_true,PT];exact(wN _ zo:eb s[j].toNat=true))⟩
         case measure=>simp[intOf];omega)
       |(go_ret
         exact⟨bu (by rw[k (uz _ zo)]),ND _ _⟩)
       |(exfalso;rename_i d;simp at d;omega)
    ·have n:j=s.size:=zo
     subst n;go_wp2;go_ret
     exact⟨bu (by
      have:=a.out;rw[NC zm] at this;simp[bn,this];omega),ND _ _⟩
def rs(t e:Int)(w:Qm)(o:aQ t)(p:aQ e):
 Qo zP 140 #[t,e] w λx w'=>x= .returned (.int .i64 (bR t e))/\w=w':=by
 unfold aQ at o p;by_cases f:e<1
 ·go_enter func140,ntmps140
  go_wp2;go_ret;exact⟨bp (by unfold bR;rw[NH f]),rfl⟩
 ·have g:=lf t e zo
  have a:=ia t e zo;have h:=ct t e zo;obtain⟨q,s,i,j⟩:=g;obtain⟨k,l,c⟩:=h
  have B: -9223372036854775808<=t-t.tmod e/\t-t.tmod e<=9223372036854775807:=by
   by_cases m:0<=t
   ·have:=i m;omega
   ·have:=j zo;omega
  obtain⟨r,d⟩:=zy (t%e);rw[<-d] at a k l c;have u:t.tmod e=r\/t.tmod e=r-e:=by split at a<;>omega
  have n:=zh a;clear a c;go_enter func140,ntmps140;go_wp2
  all_goals go_ret
  all_goals
   refine⟨bp ?_,rfl⟩;have a:=n.out;unfold bR;rw[<-d,NB zo];split at a<;>split<;>((try unfold RowKit.wrap64);omega)
def yW{t k e:Int}(j:t<k)(l:0<=t)(f:1<=e):max (bR (t-k) e) 0=0:=by
 have⟨g,h,_⟩:=ct (t-k) e f;unfold bR;rw[NB zo];have i:=PC (t-k) e
 have hq:(t-k)/e<= -1:=by
  have:=Int.ediv_lt_of_lt_mul (a:=t-k) (b:=0) (c:=e) zo zo;omega
 have d:e*((t-k)/e)<=e*(-1):=Int.mul_le_mul_of_nonneg_left hq zo;rw[Int.mul_neg,Int.mul_one] at d;split<;>omega
def tt(t k e:Int)(w:Qm)(f:aQ t)(g:aQ k)(c:aQ e):
 Qo zP 211 #[t,k,e] w λx w'=>x= .returned (.int .i64 (dL t k e))/\w=w':=by
 have d:=c;unfold aQ at f g c;by_cases h:t<0\/k<0\/e<1\/t<k
 ·have H:Qs (dL t k e=0):=zh (by
   unfold dL;split
   ·rfl
   ·exact yW zo zo zo)
  by_cases i:t<0
  ·go_enter func211,ntmps211
   go_wp2;go_ret;exact⟨bp H.symm,rfl⟩
  ·by_cases j:k<0
   ·go_enter func211,ntmps211
    go_wp2;go_ret;exact⟨bp H.symm,rfl⟩
   ·by_cases l:e<1
    ·go_enter func211,ntmps211
     go_wp2;go_ret;exact⟨bp H.symm,rfl⟩
    ·have m:t<k:=zo
     go_enter func211,ntmps211;go_wp2;go_ret;exact⟨bp H.symm,rfl⟩
 ·have a:=ct (t-k) e zo
  have H:Qs (dL t k e=bR (t-k) e):=zh (by
   unfold dL;rw[NB zo]
   have:0<=bR (t-k) e:=by
    unfold bR;rw[NB zo];have:=a.2.2 zo;split<;>omega
   omega)
  clear a;go_enter func211,ntmps211;go_wp2_with (go_at_call 140;refine(rs _ _ _ (by unfold aQ;omega) d).mono ?_;rintro x w' ⟨rfl,rfl⟩)
  all_goals go_ret
  all_goals exact⟨bp H.symm,rfl⟩
def Dj(v:Qn)(r:RV)(k:Int)(w:Qm)(c8:cu w v r)(b4:aQ r.now)(b5:aQ k):
 Qo zP 141 #[v,k] w (aK w (.int .i64 (r.from k))):=by
 obtain⟨c9,d0,rfl,b6,i⟩:=c8;obtain⟨a,c,rfl,a7,d1,a8⟩:=b6;obtain⟨u,x,rfl,b7,d2,a9⟩:=i;have b8:=zh a8;have b0:=zh a9;have b1:=zh a7;have T:=zh b4;have d3:=zh b5;clear a8 a9 a7 b7;unfold aQ at b4 b5;by_cases y:r.is k=true
 ·have D:0<=k/\k<r.l.length:=by unfold RV.is at y;simpa using y
  clear y;obtain⟨d,rfl⟩: ∃d:Nat,k=d:=⟨k.toNat,zo⟩;have d4: ¬(d:Int)<0:=zo;have d5: ¬(r.l.length:Int)<=d:=zo;obtain⟨b,o,rfl,g,U⟩:=b8 (by intro f;rw[f] at D;simp at D;omega);obtain⟨_,E,F,_⟩:=U d zo;have V:=b1 (r.l.getD d ah.zero) (by rw[Nr,Np (zo:d<r.l.length)];exact NT _)
  have W:r.from d=if d<r.fl.length then max (r.low d) (r.fl.getD d 0) else r.low d:=by
   rw[r.from_nat d zo];rfl
  have X:=(ak w (.cells #[(r.now:Int),r.name,.slice (some ⟨b,o,none⟩) r.l.length c,.slice u r.fl.length x] 111)).cell (p:=⟨b,o+d*4+1,none⟩) g;obtain⟨l,A⟩:=zx ((r.l.getD d ah.zero).keep);have H:=zh (show aQ l by rw[A];exact V.2.2.1);obtain⟨b2,I⟩:=zx ((r.l.getD d ah.zero).every);have Y:aQ b2:=by rw[I];exact V.2.1
  by_cases b3:d+1<r.l.length
  ·obtain⟨_,J,_,_⟩:=U (d+1) b3
   have b9:=b1 (r.l.getD (d+1) ah.zero) (by rw[Nr,Np b3];exact NT _);obtain⟨ev,n⟩:=zx ((r.l.getD (d+1) ah.zero).every);have K:=zh (show aQ ev by rw[n];exact b9.2.1);have L:r.low d=dL r.now l ev:=by unfold RV.low;rw[(zo:min (d+1) (r.l.length-1)=d+1),<-A,<-n]
   have c1:(d:Int)+1<r.l.length:=zo;rw[<-A] at F;rw[<-I] at E;rw[<-n] at J;have c2:=zh E;have Z:=zh F;have c3:=zh J;have q:=zh (show r.from d=if d<r.fl.length then max (dL r.now l ev) (r.fl.getD d 0) else dL r.now l ev by rw[W,L]);have X:=E;have a0:=F;have a1:=J;clear A I n V U W L Y;obtain⟨G,B⟩:=zy (dL r.now l ev);have c4:=zh (show aQ G by rw[B];exact kq _ _ _ T H K);rw[<-B] at q;go_enter func141,ntmps141;go_wp2_with fail;obtain⟨j,s⟩:=zx (w.alloc (.cells #[(r.now:Int),r.name,.slice (some ⟨b,o,none⟩) r.l.length c,.slice u r.fl.length x] 111));rw[<-s];have M:=zh (show Qr w.heap.size w j by rw[s];exact ak _ _);obtain⟨c0,a2,N,O⟩:=fG (show j.heap[w.heap.size]?=some (.cells #[(r.now:Int),r.name,.slice (some ⟨b,o,none⟩) r.l.length c,.slice u r.fl.length x] 111) by rw[s];exact Nu _ _);have a3:=(M.cell (p:=⟨b,_,none⟩) g).trans Z;clear s X a0 a1;refine zI (λw'=>Qr w.heap.size w w'/\w'.cell? ⟨w.heap.size,0,none⟩=some (.int .i64 r.now)/\w'.cell? ⟨w.heap.size,2,none⟩=some (.slice (some ⟨b,o,none⟩) r.l.length c)/\w'.cell? ⟨w.heap.size,3,none⟩=some (.slice u r.fl.length x)/\w'.cell? ⟨b,o+d*4+2,none⟩=some (.int .i64 l)) 12 (zL [?_,?_,?_,?_,?_,?_,?_,?_,?_,?_,?_,?_]) (λj P f g=>⟨ai f.1 g,ae f.2.1 g,ae f.2.2.1 g,ae f.2.2.2.1 g,ae f.2.2.2.2 g⟩) (⟨M.drew,c0,N,O,a3⟩) ?_;rotate_right
   iterate 10
    refine aw zk rfl rfl (λj h t d m=>?_) ?_
    ·(try dsimp only at h);go_simp;exact m.out _ _ (by simp only[Act.put,NN,Om,Oe,Ol,OK];rfl) zr
    simp only[Act.put,NN,Om,Oe,Ol,OK]
   refine aw zk rfl rfl (λj h t d m=>?_) ?_
   ·(try dsimp only at h);go_simp;refine(tt _ _ _ _ T H K).mono ?_;rintro e P ⟨rfl,rfl⟩;rw[<-B];exact m.out _ _ (by simp only[Act.put,NN,Om,Oe,Ol,OK];rfl) zr
   simp only[Act.put,NN,Om,Oe,Ol,OK];refine aw zk rfl rfl (λj h t d m=>?_) ?_
   ·(try dsimp only at h);go_simp;exact m.out _ _ (by simp only[Act.put,NN,Om,Oe,Ol,OK];rfl) zr
   simp only[Act.put,NN,Om,Oe,Ol,OK];refine zD λP h t=>?_
   obtain⟨Q,_,_,c5,_⟩:=h;have C:=zh Q;clear Q t c0 a2 N O;by_cases i:d<r.fl.length
   ·obtain⟨a4,c6,rfl,a5,R⟩:=b0 (by intro f;rw[f] at i;simp at i)
    have z:=(C.cell (p:=⟨a4,_,none⟩) a5).trans (R d i);obtain⟨c7,S⟩:=zx (r.fl.getD d 0);rw[<-S] at z q;clear R S;go_wp2_with fail;go_ret;exact⟨bp (by rw[q,NH i]),C⟩
   ·go_wp2_with fail
    go_ret;exact⟨bp (by rw[q,NB i]),C⟩
  ·obtain⟨ev,n⟩:=zx b2
   have K:=zh (show aQ ev by rw[n];exact Y);have L:r.low d=dL r.now l ev:=by unfold RV.low;rw[(zo:min (d+1) (r.l.length-1)=d),<-A,<-I,n]
   have c1: ¬(d:Int)+1<r.l.length:=zo;have J:True:=trivial;rw[<-A] at F;rw[<-I,<-n] at E;have c2:=zh E;have Z:=zh F;have c3:=zh J;have q:=zh (show r.from d=if d<r.fl.length then max (dL r.now l ev) (r.fl.getD d 0) else dL r.now l ev by rw[W,L]);have H:=zh H;have X:=E;have a0:=F;have a1:=J;clear A I n V U W L Y;obtain⟨G,B⟩:=zy (dL r.now l ev);have c4:=zh (show aQ G by rw[B];exact kq _ _ _ T H K);rw[<-B] at q;go_enter func141,ntmps141;go_wp2_with fail;obtain⟨j,s⟩:=zx (w.alloc (.cells #[(r.now:Int),r.name,.slice (some ⟨b,o,none⟩) r.l.length c,.slice u r.fl.length x] 111));rw[<-s];have M:=zh (show Qr w.heap.size w j by rw[s];exact ak _ _);obtain⟨c0,a2,N,O⟩:=fG (show j.heap[w.heap.size]?=some (.cells #[(r.now:Int),r.name,.slice (some ⟨b,o,none⟩) r.l.length c,.slice u r.fl.length x] 111) by rw[s];exact Nu _ _);have a3:=(M.cell (p:=⟨b,_,none⟩) g).trans Z;clear s X a0 a1;refine zI (λw'=>Qr w.heap.size w w'/\w'.cell? ⟨w.heap.size,0,none⟩=some (.int .i64 r.now)/\w'.cell? ⟨w.heap.size,2,none⟩=some (.slice (some ⟨b,o,none⟩) r.l.length c)/\w'.cell? ⟨w.heap.size,3,none⟩=some (.slice u r.fl.length x)/\w'.cell? ⟨b,o+d*4+2,none⟩=some (.int .i64 l)) 12 (zL [?_,?_,?_,?_,?_,?_,?_,?_,?_,?_,?_,?_]) (λj P f g=>⟨ai f.1 g,ae f.2.1 g,ae f.2.2.1 g,ae f.2.2.2.1 g,ae f.2.2.2.2 g⟩) (⟨M.drew,c0,N,O,a3⟩) ?_;rotate_right
   iterate 10
    refine aw zk rfl rfl (λj h t d m=>?_) ?_
    ·(try dsimp only at h);go_simp;exact m.out _ _ (by simp only[Act.put,NN,Om,Oe,Ol,OK];rfl) zr
    simp only[Act.put,NN,Om,Oe,Ol,OK]
   refine aw zk rfl rfl (λj h t d m=>?_) ?_
   ·(try dsimp only at h);go_simp;refine(tt _ _ _ _ T H K).mono ?_;rintro e P ⟨rfl,rfl⟩;rw[<-B];exact m.out _ _ (by simp only[Act.put,NN,Om,Oe,Ol,OK];rfl) zr
   simp only[Act.put,NN,Om,Oe,Ol,OK];refine aw zk rfl rfl (λj h t d m=>?_) ?_
   ·(try dsimp only at h);go_simp;exact m.out _ _ (by simp only[Act.put,NN,Om,Oe,Ol,OK];rfl) zr
   simp only[Act.put,NN,Om,Oe,Ol,OK];refine zD λP h t=>?_
   obtain⟨Q,_,_,c5,_⟩:=h;have C:=zh Q;clear Q t c0 a2 N O;by_cases i:d<r.fl.length
   ·obtain⟨a4,c6,rfl,a5,R⟩:=b0 (by intro f;rw[f] at i;simp at i)
    have z:=(C.cell (p:=⟨a4,_,none⟩) a5).trans (R d i);obtain⟨c7,S⟩:=zx (r.fl.getD d 0);rw[<-S] at z q;clear R S;go_wp2_with fail;go_ret;exact⟨bp (by rw[q,NH i]),C⟩
   ·go_wp2_with fail
    go_ret;exact⟨bp (by rw[q,NB i]),C⟩
 ·have a6:=zh (show r.from k=0 by unfold RV.from;rw[NB y])
  have D:k<0\/(r.l.length:Int)<=k:=by
   by_cases f:k<0
   ·exact .inl f
   ·refine .inr ?_
    unfold RV.is at y;simp at y;omega
  clear y;rcases D with D|D
  ·go_enter func141,ntmps141
   go_wp2;go_ret;exact⟨bp a6.symm,ak _ _⟩
  ·by_cases d6:k<0
   ·go_enter func141,ntmps141
    go_wp2;go_ret;exact⟨bp a6.symm,ak _ _⟩
   ·go_enter func141,ntmps141
    go_wp2;go_ret;exact⟨bp a6.symm,ak _ _⟩
def yX(v:Qn)(r:RV)(k t:Int)(w:Qm)(D:cu w v r)(H:aQ r.now)(I:aQ k)(J:aQ t):
 Qo zP 87 #[v,k,t] w (aK w (.tuple #[.int .i64 (r.start k t).1,.bool (r.start k t).2])):=by
 have j:=D;obtain⟨Z,a0,rfl,l,K⟩:=D;have m:=l;obtain⟨a,c,rfl,f,a1,n⟩:=l;obtain⟨L,M,rfl,N,a2,O⟩:=K;have q:=zh j;have P:=zh n;have s:=zh H;have Q:=zh I;have u:=zh J;have R:=zh m;clear n O f N j m;unfold aQ at H I J;by_cases a3:k<0
 ·have E:=zh (show r.start k t=(0,false) by unfold RV.start RV.is;rw[NB zB])
  go_enter func87,ntmps87;go_wp2;go_ret2;rw[E];exact⟨rfl,ak _ _⟩
 by_cases x:(r.l.length:Int)<=k
 ·have E:=zh (show r.start k t=(0,false) by unfold RV.start RV.is;rw[NB zB])
  go_enter func87,ntmps87;go_wp2;go_ret2;rw[E];exact⟨rfl,ak _ _⟩
 by_cases a4:t<0
 ·have E:=zh (show r.start k t=(0,false) by unfold RV.start RV.is;rw[NB zo])
  go_enter func87,ntmps87;go_wp2;go_ret2;rw[E];exact⟨rfl,ak _ _⟩
 obtain⟨d,rfl⟩: ∃d:Nat,k=d:=⟨k.toNat,zo⟩;obtain⟨b,o,rfl,S,y⟩:=P (by intro T;rw[T] at x;simp at x<;>omega);obtain⟨_,A,_,_⟩:=y d zo;have f:=kr R d zo;obtain⟨ev,g⟩:=zx ((r.l.getD d ah.zero).every);have B:=zh (show r.start d t=(bR t ev,decide (r.from d<=bR t ev)) by unfold RV.start;rw[NH ⟨by unfold RV.is;simp;omega,zo⟩,g];rfl);have C:=zh (show aQ ev by rw[g];exact f.2.1);rw[<-g] at A;obtain⟨G,h⟩:=zy (bR t ev);obtain⟨F,i⟩:=zy (r.from d);rw[<-h,<-i] at B;have U:aQ G:=by rw[h];exact gU _ _ u C.2
 have V:aQ F:=by rw[i];exact RV.from_I64 q s d
 unfold aQ at U V;have a5:=((ak w (.cells #[(r.now:Int),r.name,.slice (some ⟨b,o,none⟩) r.l.length c,.slice L r.fl.length M] 111)).cell (p:=⟨b,o+d*4+1,none⟩) S).trans A;clear g f y;go_enter func87,ntmps87;go_wp2_with fail;refine(rs _ _ _ u C).mono ?_;rintro e W ⟨rfl,rfl⟩;rw[<-h];go_wp2_with fail;refine zb (Dj _ r d _ (q.below ze) s Q) λW X=>?_
 rw[<-i];have Y:=ai ze X;go_wp2;go_ret2;rw[B];exact⟨rfl,Y⟩
section
variable{w:Qm}
def IX(n:ByteArray)(a b c:Int)(w:Qm):(binOp .eql 116 (.agg #[n,a,b,c]) (.agg #[n,a,b,c])).run zP w= .ok (.bool true) w:=by
 rw[run_eql_struct,run_equalIn_agg _ _ _ _ _ (by unfold Program.fieldsOf;rw[underlying116]) zk];unfold Program.fieldsOf;rw[underlying116];simp[Op.eqFields,part,run_equalIn_int,run_equalIn_string,underlying3,underlying9]
def Dl{v u:Qn}{n:ByteArray}{l:List ah}(a2:aH w v l)(a3:aH w u l):Qo zP 38 #[.agg #[n,v],.agg #[n,u]] w (aK w (.bool true)):=by
 obtain⟨a,g,rfl,S,a4,K⟩:=a2;obtain⟨b,t,rfl,U,a5,L⟩:=a3;have V:=zh K;have W:=zh L;have a6:((l.length:Int) !=l.length)=false:=zm;clear S U K L;go_enter func38,ntmps38;go_wp2;obtain⟨d,f⟩:=zx ((w.alloc (.cells #[n,.slice a l.length g] 32)).alloc (.cells #[n,.slice b l.length t] 32):Qm);have M:Qr w.heap.size w d:=by rw[f];exact ai ze ze
 obtain⟨h,x⟩:=zx (w.heap.size:Nat)
 have N:d.cell? ⟨h,1,none⟩=some (.slice a l.length g):=by
  have y:d.heap[h]?=some (.cells #[n,.slice a l.length g] 32):=by rw[f,x];exact ab (Nu w (.cells #[n,.slice a l.length g] 32)) ze
  rw[NA _ _ _ _ _ _ y];rfl
 have O:d.cell? ⟨h+1,1,none⟩=some (.slice b l.length t):=by
  have y:d.heap[h+1]?=some (.cells #[n,.slice b l.length t] 32):=by rw[f];exact ag zu
  rw[NA _ _ _ _ _ _ y];rfl
 have j:=zh (And.intro N (And.intro O M));rw[<-f,<-x];clear f M N O x;go_loopw [5] (λi wr=> ∃(k:Nat),k<=l.length/\i= .int .i64 k/\Qs (Qr d.heap.size d wr)) (λi _=>l.length-(intOf i).toNat)
 case atStart=>exact⟨0,Nx _,rfl,zh zr⟩
 case round=>
  obtain⟨k,a7,rfl,m⟩:=hrel;have c:=j.2.2.trans (m.mono j.2.2.size);have X:=ae j.1 m;have Y:=ae j.2.1 m;have Z:=Nv _ _ X;have a0:=Nv _ _ Y;dsimp only at Z a0;have a1:=zh c;by_cases e:k<l.length
  ·obtain⟨o,a8,rfl,q,P⟩:=V (by intro A;rw[A] at e;exact absurd e (Oy _))
   obtain⟨r,a9,rfl,s,Q⟩:=W (by intro A;rw[A] at e;exact absurd e (Oy _));obtain⟨B,C,D,E⟩:=P k e;obtain⟨F,H,I,J⟩:=Q k e;have B:=(c.cell (p:=⟨o,_,none⟩) q).trans B;have C:=(c.cell (p:=⟨o,_,none⟩) q).trans C;have D:=(c.cell (p:=⟨o,_,none⟩) q).trans D;have E:=(c.cell (p:=⟨o,_,none⟩) q).trans E;have F:=(c.cell (p:=⟨r,_,none⟩) s).trans F;have H:=(c.cell (p:=⟨r,_,none⟩) s).trans H;have I:=(c.cell (p:=⟨r,_,none⟩) s).trans I;have J:=(c.cell (p:=⟨r,_,none⟩) s).trans J;obtain⟨T,R⟩:=zx (l.getD k ah.zero);rw[<-R] at B C D E F H I J;have hq:=λw=>IX T.name T.every T.keep T.shards w
   clear R P Q c;go_wp2;go_quiet (fail);go_wp2;go_roundw
   case rel=>exact⟨k+1,zo,by go_num,(dU m _)⟩
   case measure=>simp[intOf];omega
  ·clear c
   go_wp2;go_ret;exact⟨rfl,a1⟩
def Dm{v u:Qn}{o:Option ay}(t:aB 7 ay.cells w v o.toList)(x:aB 7 ay.cells w u o.toList):Qo zP 42 #[v,u] w (aK w (.bool true)):=by
 have y:=zh t;have A:=zh x;obtain⟨va,vc,rfl,-,-⟩:=t;obtain⟨D,E,rfl,-,-⟩:=x;cases o with
 |none=>
  go_enter func42,ntmps42;go_wp2_with fail;refine NM 1 ?_;rw[NF];go_wp2;go_ret;exact⟨rfl,ND _ _⟩
 |some r=>
  obtain⟨F,H,rfl,I,a,c,d,e,f,g,h⟩:=ds (j:=0) y rfl;obtain⟨J,K,rfl,L,i,k,l,m,n,p,q⟩:=ds (j:=0) A rfl;simp only[Ox,NR] at a c d e f g h i k l m n p q;go_enter func42,ntmps42;go_wp2_with fail;refine NM 2 ?_;rw[NF];go_wp2_with fail;refine zJ w 10 (zL [?_,?_,?_,?_,?_,?_,?_,?_,?_,?_]) zq ?_;rotate_right
  iterate 10
   refine zV ?_
  refine zD λM s B=>?_
  have C:=zh s.1;clear s B a c d e f g h i k l m n p q;go_wp2_with fail;rw[NF];go_wp2;go_ret;exact⟨rfl,C⟩
end
def yY(c e f a d:Int)(w:Qm):
 Qo zP 143 #[.agg #[c,e,.int .u64 f,a,d]] w (aK w (.bool (aF.valid ⟨c,e,f,a,d⟩))):=by
 have H:=zh (show∀b,b=aF.valid ⟨c,e,f,a,d⟩->aK w (.bool (aF.valid ⟨c,e,f,a,d⟩)) (.returned (.bool b)) (w.alloc (.cells #[c,e,.int .u64 f,a,d] 63)) from λb g=>⟨by rw[g],aL zr zl⟩)
 skip
 by_cases h:1<=c
 ·by_cases i:c<=4611686018427387904
  ·by_cases j:a<=d
   ·go_enter func143,ntmps143
    go_wp2
    all_goals go_ret
    all_goals refine H _ ?_
    all_goals simp[aF.valid];omega
   ·go_enter func143,ntmps143
    go_wp2
    all_goals go_ret
    all_goals refine H _ ?_
    all_goals simp[aF.valid];omega
  ·go_enter func143,ntmps143
   go_wp2
   all_goals go_ret
   all_goals refine H _ ?_
   all_goals simp[aF.valid];omega
 ·go_enter func143,ntmps143
  go_wp2
  all_goals go_ret
  all_goals refine H _ ?_
  all_goals simp[aF.valid];omega
def Gn(v:Int)(w:Qm)(e: -9223372036854775808<=v/\v<=9223372036854775807):
 Qo zP 89 #[v] w (aK w (dP v).val):=by
 have d:=zh (mX v);by_cases c:v<0
 ·have a:dP v=⟨1,-1,bM v,v,v⟩:=by unfold dP bM;rw[NH c]
  rw[a];clear a;go_enter func89,ntmps89;go_wp2;rw[d];exact NG (v:=aF.val ⟨1,-1,bM v,v,v⟩) (by simp[results,results89,go_sem,aF.val]) rfl ⟨rfl,ak _ _⟩
 ·have a:dP v=⟨1,0,bM v,v,v⟩:=by unfold dP bM;rw[NB c]
  rw[a,show bM v=v by unfold bM;omega];clear a;go_enter func89,ntmps89;go_wp2;exact NG (v:=aF.val ⟨1,0,v,v,v⟩) (by simp[results,results89,go_sem,aF.val]) rfl ⟨rfl,ak _ _⟩
def IY(t e:Int)(w:Qm)(k:aQ t)(g:aQ e):
 Qo zP 142 #[t,e] w λx w'=>x= .returned (.bool (lS t e))/\w=w':=by
 unfold aQ at g;by_cases h:e<1
 ·go_enter func142,ntmps142
  go_wp2;go_ret;exact⟨bu (by unfold lS;simp;omega),rfl⟩
 ·have a:=ia t e zo
  have c:=ct t e zo;obtain⟨i,j,d⟩:=c;have f:=zh a;clear a d;go_enter func142,ntmps142;go_wp2
  all_goals go_ret
  all_goals
   refine⟨bu ?_,rfl⟩;have a:=f.out;unfold lS;rw[a,PA];simp;split<;>omega
section
variable{w W u w':Qm}
def JI(a:iz W u)(r:ay):aB 7 ay.cells (u.alloc (.cells #[r.name,(r.start:Int),(r.agg.c:Int),(r.agg.hi:Int),.int .u64 r.agg.lo,(r.agg.mn:Int),(r.agg.mx:Int)] 65)) (.slice (some ⟨u.heap.size,0,none⟩) (1:Nat) 1) [r]:=bC 7 (c:=1) (l:= [r]) (ag rfl) rfl ⟨Nt 1,zd⟩
def IZ(w:Qm)(p:Nat)(e:Int)(r:ay)(x:Qq)(w':Qm):Prop:=
 ∃v,x= .returned (.bool true)/\w'.heap[p]?=some (.cells #[e,v] 175)/\aB 7 ay.cells w' v [r]/\(∀j,aD v j->w.heap.size<=j)/\Ch (·=p) w w'
def Dn{p:Nat}{e:Int}{r:ay}(H:Qs (w.heap[p]?=some (.cells #[e,z0] 175)))(d5:Qs (bn r.name=true))(d6:Qs (r.name.size<=1000000))(e4:0<=r.start)(c6:aQ r.start)(b6:aQ e)(c7:lS r.start e=true)(c8:r.agg.valid=true):
 Qo zP 88 #[p,r.val] w (IZ w p e r):=by
 have a8:=zh (And.intro c6 (And.intro b6 c7));have c9:=zh c8;have d7:=zi (r.start<0);obtain⟨a1,Q,R,T,U⟩:=info_parts jW;clear c6 b6 c7 c8;unfold ay.val;go_enter func88,ntmps88;go_wp2_with fail;obtain⟨d0,a9⟩:=zy (w.heap.size:Nat);obtain⟨W,n⟩:=zx (w.alloc (.cells #[r.name,(r.start:Int),(r.agg.c:Int),(r.agg.hi:Int),.int .u64 r.agg.lo,(r.agg.mn:Int),(r.agg.mx:Int)] 65):Qm);have M:=zh (show Qr w.heap.size w W by rw[n];exact ak _ _);have a2:W.heap[d0]?=some (.cells #[r.name,(r.start:Int),(r.agg.c:Int),(r.agg.hi:Int),.int .u64 r.agg.lo,(r.agg.mn:Int),(r.agg.mx:Int)] 65):=by rw[n,a9];exact Nu _ _
 have a3:=ab H M;rw[<-n,<-a9];clear n;obtain⟨t,u,A,B,C,D,E⟩:=lP a2;obtain⟨F,q⟩:=bE a3;have I:=aa a2;have s:=aa a3;have b7:=zh (And.intro a2 a3);clear a2 a3;refine aC (S:=(iz W)) 25 zk ?_ (λa=>?_)
 ·(first|exact ax _|exact aj _ _ a a9|exact aj _ _ a ze|exact a)
 refine zT 0 ?_;refine zT 1 ?_;refine zO 2 λh d=>?_
 go_simp;refine zb (kF r.name _ (by have:=d6.out;omega)) λd8 f=>?_;rw[d5]
 refine zE d (by first|exact ax _|exact aj _ _ a f|exact aj _ _ a ze|exact a) λa=>?_
 refine zT 3 ?_;refine zT 4 ?_;refine zT 5 ?_;refine zT 6 ?_;refine zT 7 ?_;refine zT 8 ?_;refine zT 9 ?_;refine zT 10 ?_;refine zT 11 ?_;refine zT 12 ?_;refine zT 13 ?_;refine zT 14 ?_;refine zT 15 ?_;refine zO 16 λh d=>?_
 go_simp;refine(IY r.start e _ a8.1 a8.2.1).mono ?_;rintro x d9 ⟨rfl,rfl⟩;rw[a8.2.2];have f:=ND W.heap.size W;refine zE d (by first|exact ax _|exact aj _ _ a f|exact aj _ _ a ze|exact a) λa=>?_
 refine zT 17 ?_;refine zT 18 ?_;refine zT 19 ?_;refine zT 20 ?_;refine zT 21 ?_;refine zO 22 λh d=>?_
 go_simp;refine zb (yY r.agg.c r.agg.hi r.agg.lo r.agg.mn r.agg.mx _) λa4 f=>?_;rw[show aF.valid ⟨r.agg.c,r.agg.hi,r.agg.lo,r.agg.mn,r.agg.mx⟩=true from c9]
 refine zE d (by first|exact ax _|exact aj _ _ a f|exact aj _ _ a ze|exact a) λa=>?_
 refine zT 23 ?_;refine zT 24 ?_;refine zH ?_;have a5:=zh a.1;have J:=zh (And.intro (ab b7.1 a.1) (ab b7.2 a.1));clear t u A B C D E F q I s a;obtain⟨t,u,A,B,C,D,E⟩:=lP J.1;obtain⟨F,q⟩:=bE J.2;have I:=aa J.1;have s:=aa J.2;have a6:=λo=>ad (o:=o) J.2
 go_wp2_with fail;refine NM 1 ?_;rw[NF];go_wp2_with fail;refine aC (S:=(iz a4)) 18 zk ?_ (λa=>?_)
 ·(first|exact ax _|exact aj _ _ a f|exact aj _ _ a ze|exact a)
 refine zT 0 ?_;refine zT 1 ?_;refine zT 2 ?_;refine zT 3 ?_;refine zT 4 ?_;refine zT 5 ?_;refine zT 6 ?_;refine zT 7 ?_;refine aX (i:=8) (v:=undef) rfl zk (λ_ _ _ c=>c) (Or.inr ⟨zk,rfl⟩) zj ?_;simp only[zS];refine aX (i:=9) (v:=undef) rfl zk (λ_ _ _ c=>c) (Or.inr ⟨zk,rfl⟩) zj ?_;simp only[zS];refine aX (i:=10) (v:=undef) rfl zk (λ_ _ _ c=>c) (Or.inr ⟨zk,rfl⟩) zj ?_;simp only[zS];refine aX (i:=11) (v:=undef) rfl zk (λ_ _ _ c=>c) (Or.inr ⟨zk,rfl⟩) zj ?_;simp only[zS];refine aX (i:=12) (v:=undef) rfl zk (λ_ _ _ c=>c) (Or.inr ⟨zk,rfl⟩) zj ?_;simp only[zS];refine aX (i:=13) (v:=undef) rfl zk (λ_ _ _ c=>c) (Or.inr ⟨zk,rfl⟩) zj ?_;simp only[zS];refine aX (i:=14) (v:=undef) rfl zk (λ_ _ _ c=>c) (Or.inr ⟨zk,rfl⟩) zj ?_;simp only[zS];refine aX (i:=15) (v:=undef) rfl zk (λ_ _ _ c=>c) (Or.inr ⟨zk,rfl⟩) zj ?_;simp only[zS];refine aX (i:=16) (v:=undef) rfl zk (λ_ _ _ c=>c) (Or.inr ⟨zk,rfl⟩) zj ?_;simp only[zS];refine zT 17 ?_;refine zH ?_;clear a;go_wp2_with fail;obtain⟨V,b0⟩:=zx (a4.drew:Qm);have X:=zh (show Qr a4.heap.size a4 V by rw[b0];exact zr.drew);have N:=zh (And.intro (ab J.1 X) (ab J.2 X));rw[<-b0];clear t u A B C D E F q I s a6 b0;obtain⟨t,u,A,B,C,D,E⟩:=lP N.1;obtain⟨F,q⟩:=bE N.2;have I:=aa N.1;have s:=aa N.2;refine aC (S:=(iz V)) 33 zk ?_ (λa=>?_)
 ·(first|exact ax _|exact aj _ _ a f|exact aj _ _ a ze|exact a)
 refine zT 0 ?_;refine zT 1 ?_;refine zT 2 ?_;refine zT 3 ?_;refine zT 4 ?_;refine zT 5 ?_;refine zT 6 ?_;refine zT 7 ?_;refine aX (i:=8) (v:=undef) rfl zk (λ_ _ _ c=>c) (Or.inr ⟨zk,rfl⟩) zj ?_;simp only[zS];refine aX (i:=9) (v:=undef) rfl zk (λ_ _ _ c=>c) (Or.inr ⟨zk,rfl⟩) zj ?_;simp only[zS];refine aX (i:=10) (v:=undef) rfl zk (λ_ _ _ c=>c) (Or.inr ⟨zk,rfl⟩) zj ?_;simp only[zS];refine aX (i:=11) (v:=undef) rfl zk (λ_ _ _ c=>c) (Or.inr ⟨zk,rfl⟩) zj ?_;simp only[zS];refine aX (i:=12) (v:=undef) rfl zk (λ_ _ _ c=>c) (Or.inr ⟨zk,rfl⟩) zj ?_;simp only[zS];refine aX (i:=13) (v:=undef) rfl zk (λ_ _ _ c=>c) (Or.inr ⟨zk,rfl⟩) zj ?_;simp only[zS];refine aX (i:=14) (v:=undef) rfl zk (λ_ _ _ c=>c) (Or.inr ⟨zk,rfl⟩) zj ?_;simp only[zS];refine aX (i:=15) (v:=undef) rfl zk (λ_ _ _ c=>c) (Or.inr ⟨zk,rfl⟩) zj ?_;simp only[zS];refine aX (i:=16) (v:=undef) rfl zk (λ_ _ _ c=>c) (Or.inr ⟨zk,rfl⟩) zj ?_;simp only[zS];refine aX (i:=17) (v:=undef) rfl zk (λ_ _ _ c=>c) (Or.inr ⟨zk,rfl⟩) zj ?_;simp only[zS];refine aX (i:=18) (v:=undef) rfl zk (λ_ _ _ c=>c) (Or.inr ⟨zk,rfl⟩) zj ?_;simp only[zS];refine zT 19 ?_;refine zT 20 ?_;refine aX (i:=21) (v:=undef) rfl zk (λ_ _ _ c=>c) (Or.inr ⟨zk,rfl⟩) zj ?_;simp only[zS];refine aX (i:=22) (v:=undef) rfl zk (λ_ _ _ c=>c) (Or.inr ⟨zk,rfl⟩) zj ?_;simp only[zS];refine aX (i:=23) (v:=undef) rfl zk (λ_ _ _ c=>c) (Or.inr ⟨zk,rfl⟩) zj ?_;simp only[zS];refine aX (i:=24) (v:=undef) rfl zk (λ_ _ _ c=>c) (Or.inr ⟨zk,rfl⟩) zj ?_;simp only[zS];refine aX (i:=25) (v:=undef) rfl zk (λ_ _ _ c=>c) (Or.inr ⟨zk,rfl⟩) zj ?_;simp only[zS];refine aX (i:=26) (v:=undef) rfl zk (λ_ _ _ c=>c) (Or.inr ⟨zk,rfl⟩) zj ?_;simp only[zS];refine aX (i:=27) (v:=undef) rfl zk (λ_ _ _ c=>c) (Or.inr ⟨zk,rfl⟩) zj ?_;simp only[zS];refine aX (i:=28) (v:=undef) rfl zk (λ_ _ _ c=>c) (Or.inr ⟨zk,rfl⟩) zj ?_;simp only[zS];refine aX (i:=29) (v:=undef) rfl zk (λ_ _ _ c=>c) (Or.inr ⟨zk,rfl⟩) zj ?_;simp only[zS];refine aX (i:=30) (v:=undef) rfl zk (λ_ _ _ c=>c) (Or.inr ⟨zk,rfl⟩) zj ?_;simp only[zS];refine aX (i:=31) (v:=undef) rfl zk (λ_ _ _ c=>c) (Or.inr ⟨zk,rfl⟩) zj ?_;simp only[zS];refine zT 32 ?_;refine zH ?_;clear a;go_wp2_with fail;obtain⟨W,n⟩:=zx (V.drew:Qm);have Y:=zh (show Qr V.heap.size V W by rw[n];exact zr.drew);have O:=zh (And.intro (ab N.1 Y) (ab N.2 Y));rw[<-n];clear t u A B C D E F q I s n;obtain⟨t,u,A,B,C,D,E⟩:=lP O.1;obtain⟨F,q⟩:=bE O.2;have I:=aa O.1;have s:=aa O.2;have a6:=λo=>ad (o:=o) O.2
 have e0:=zh (And.intro Q (And.intro R (And.intro T U)));have b8:=zh (show∀x∈ [r],∀y∈ay.cells x,y.oneCell'=true by intro x d1 y b9;obtain rfl:=Nz.1 d1;simp only[ay.cells,NL,NJ,Ou] at b9;rcases b9 with rfl|rfl|rfl|rfl|rfl|rfl|rfl<;>rfl);refine aC (S:=(iz W)) 15 zk ?_ (λa=>?_)
 ·(first|exact bP m|exact ax _|exact aj _ _ a f|exact aj _ _ a ze|exact a)
 refine zT 0 ?_;refine zT 1 ?_;refine zT 2 ?_;refine zT 3 ?_;refine zT 4 ?_;refine zT 5 ?_;refine zT 6 ?_;refine zT 8 ?_;refine zT 11 ?_;refine fV (i:=7) (j:=9) rfl rfl zk (λh d=>?_) (λh d=>?_)
 focus
  go_simp
  skip
  refine zE d (by first|exact bP m|exact ax _|exact aj _ _ a f|exact aj _ _ a ze|exact a) λa=>?_
  refine zO 9 λh d=>?_
  go_simp;have b1:=zh (JI a r);refine zE d (by first|exact bP m|exact ax _|exact aj _ _ a f|exact aj _ _ a ze|exact a) λa=>?_
  refine zO 10 λh d=>?_
  rw[NH (by simp[Region.wanted])];refine bX (enc:=ay.cells) _ _ 59 rfl W.heap.size 65 a1 _ 64 underlying59 Q R T U rfl zd _ _ 0 [] [r] rfl zw rfl b1 (λ_=>rfl) b8 (by show(0+1)*64<140737488355328;decide) zd a.1.size (λd2 w7 Z b2 b3=>?_);have f:=eU b2;have a0:=zh Z;clear Z b3;refine zE d (by first|exact bP m|exact ax _|exact aj _ _ a f|exact aj _ _ a ze|exact a) λa=>?_
  refine zO 12 λh d=>?_
  rw[NH (by simp[Region.wanted])];refine bX (enc:=ay.cells) _ _ 59 rfl W.heap.size 65 a1 _ 64 underlying59 Q R T U rfl zd _ _ 1 r.cells [] rfl a0 rfl (eO _ _ _) (λ_=>rfl) (λ_ c=>nomatch c) zd zd a.1.size (λd3 P K g b4=>?_);have m:Qr W.heap.size W P:=a.1.trans ⟨g.os,g.tape,g.output,g.size,λj L=>g.block j (No L a.1.size) (λe=>by have:=(ar a0 e.symm).1;omega)⟩;have c1:=zh K;obtain⟨c2,c3,rfl⟩:=az K;clear K g b4;refine zE d (by first|exact bP m|exact ax _|exact aj _ _ a f|exact aj _ _ a ze|exact a) λa=>?_
  refine zT 13 ?_;refine zT 14 ?_;refine zF ?_
 rotate_left
 focus
  go_simp;have b1:=zh (JI a r);refine zE d (by first|exact bP m|exact ax _|exact aj _ _ a f|exact aj _ _ a ze|exact a) λa=>?_
  refine zO 7 λh d=>?_
  go_simp
  skip
  refine zE d (by first|exact bP m|exact ax _|exact aj _ _ a f|exact aj _ _ a ze|exact a) λa=>?_
  refine zO 10 λh d=>?_
  rw[NH (by simp[Region.wanted])];refine bX (enc:=ay.cells) _ _ 59 rfl W.heap.size 65 a1 _ 64 underlying59 Q R T U rfl zd _ _ 0 [] [r] rfl zw rfl b1 (λ_=>rfl) b8 (by show(0+1)*64<140737488355328;decide) zd a.1.size (λd2 w7 Z b2 b3=>?_);have f:=eU b2;have a0:=zh Z;clear Z b3;refine zE d (by first|exact bP m|exact ax _|exact aj _ _ a f|exact aj _ _ a ze|exact a) λa=>?_
  refine zO 12 λh d=>?_
  rw[NH (by simp[Region.wanted])];refine bX (enc:=ay.cells) _ _ 59 rfl W.heap.size 65 a1 _ 64 underlying59 Q R T U rfl zd _ _ 1 r.cells [] rfl a0 rfl (eO _ _ _) (λ_=>rfl) (λ_ c=>nomatch c) zd zd a.1.size (λd3 P K g b4=>?_);have m:Qr W.heap.size W P:=a.1.trans ⟨g.os,g.tape,g.output,g.size,λj L=>g.block j (No L a.1.size) (λe=>by have:=(ar a0 e.symm).1;omega)⟩;have c1:=zh K;obtain⟨c2,c3,rfl⟩:=az K;clear K g b4;refine zE d (by first|exact bP m|exact ax _|exact aj _ _ a f|exact aj _ _ a ze|exact a) λa=>?_
  refine zT 13 ?_;refine zT 14 ?_;refine zF ?_
 rotate_left
 all_goals
  have a7:=zh (ab O.2 a.1);have d4:=zh (((M.trans (a5.mono M.size)).trans (X.mono (Nq M.size a5.size))).trans ((Y.trans (a.1.mono Y.size)).mono (Nq (Nq M.size a5.size) X.size)));have c4:=zh (show w.heap.size<=W.heap.size from Nq (Nq (Nq M.size a5.size) X.size) Y.size);have b5:=aB.own (l:= [r]) (enc:=ay.cells) (k:=7) (show P.ownsRow W.heap.size 65 7 _ [r].length ([r].flatMap ay.cells) from by have:=c1.out;simpa using this);clear t u A B C D E F q I s a6;have q:=(bE a7).2;have s:=aa a7;have a6:=λo=>ad (o:=o) a7
  go_wp2_with fail;have c5:Ch (·=p) P (P.setCell ⟨p,1,none⟩ (.slice c2 1 c3)):=aP (Ch.refl _ _) (.inl rfl);have e1:p<w.heap.size:=aa H;go_ret;refine⟨_,rfl,by rw[al a7];rfl,b5.1.ch c5 λj L b6=>?_,λj L=>Nq c4 (fC b5.2 L),(Ch.fresh d4).trans c5⟩;have e2:=fC b5.2 L;have e3:=c4.out;omega
end
def rt(r:RV)(k:Nat):Option ba->Option ay
 |none=>none
 |some x=>if (r.start k x.time).2 then some ⟨x.name,(r.start k x.time).1,dP x.value⟩ else none
def Ja(w:Qm)(o:Option ay)(x:Qq)(w':Qm):Prop:= ∃u,x= .returned u/\aB 7 ay.cells w' u o.toList/\Qr w.heap.size w w'
section
variable{w:Qm}
def Do{d8 v:Qn}{r:RV}{k:Nat}{o:Option ba}(d9:Qs (cu w d8 r))(R:k<r.l.length)(f9:r.l.length<=100)(e0:aQ r.now)(e1:Qs (aB 3 ba.cells w v o.toList))(e2:Qs (1<=(r.l.getD k ah.zero).every/\aQ (r.l.getD k ah.zero).every))
 (g0:Qs (∀x∈o,bn x.name=true/\x.name.size<=1000000/\0<=x.time/\aQ x.time/\aQ x.value)):Qo zP 43 #[d8,(k:Int),v] w (Ja w (rt r k o)):=by
 have e3:=zh e0;obtain⟨g1,g2,rfl,T,b5⟩:=id d9;have g3:=zh T;obtain⟨g4,s,rfl,e4,e5,b6⟩:=id T;obtain⟨u,A,rfl,-⟩:=id b5;obtain⟨va,vc,rfl,-,-⟩:=id e1;obtain⟨C,D,rfl,g5,b7⟩:=b6 (by intro e6;rw[e6] at R;exact absurd R (Oy _));obtain⟨e7,U,e8,e9⟩:=b7 k R;obtain⟨E,V⟩:=zx (r.l.length:Nat);obtain⟨F,W⟩:=zx (r.fl.length:Nat);obtain⟨ev,X⟩:=zx ((r.l.getD k ah.zero).every:Int);rw[<-X] at U;rw[<-V] at R f9⊢;rw[<-W];have H:=zh (And.intro V (And.intro W X));clear e0 T b5 e4 e5 b6 b7 e7 e8 e9 V W X;obtain⟨g,I⟩:=zx ((w.alloc (.cells #[(r.now:Int),r.name,.slice (some ⟨C,D,none⟩) E s,.slice u F A] 111)).alloc (.cells #[(ev:Int),z0] 175):Qm);obtain⟨c,N⟩:=zx (w.heap.size:Nat);have b8:Qr w.heap.size w g:=by rw[I];exact ai ze ze
 have b9:g.heap[c]?=some (.cells #[(r.now:Int),r.name,.slice (some ⟨C,D,none⟩) E s,.slice u F A] 111):=by rw[I,N];exact ab (Nu _ _) ze
 have c1:g.heap[c+1]?=some (.cells #[(ev:Int),z0] 175):=by rw[I];exact ag zu
 have c2:=zh (show w.heap.size+1=c+1 by rw[N]);have c3:=zh I;have i:=zh b8;have q:=zh (And.intro b9 c1);have Y:=zh N;clear I b8 b9 c1 N;cases o with
 |none=>
  go_enter func43,ntmps43;go_wp2_with fail;rw[<-c3,c2,<-Y];have c4:=(bE q.2).2;have c5:=aa q.2;clear U;refine NM 1 ?_;rw[NF];go_wp2;go_ret;exact⟨_,rfl,eO _ _ _,i⟩
 |some x=>
  have c6:=g0 x rfl;have f:=zh c6;obtain⟨d,h,rfl,O,P⟩:=e1.elem (λ_=>rfl) (j:=0) rfl;have Z:=P 0 _ rfl;have a0:=P 1 _ rfl;have a1:=P 2 _ rfl;simp only[Ox,NR] at Z a0 a1;have a2:=zh (And.intro Z (And.intro a0 a1));clear c6 P Z a0 a1;go_enter func43,ntmps43;go_wp2_with fail;rw[<-c3,c2,<-Y]
  obtain⟨a3,a4,a5,a6⟩:g.cell? ⟨c,0,none⟩=some (.int .i64 r.now)/\g.cell? ⟨c,1,none⟩=some (.string r.name)/\g.cell? ⟨c,2,none⟩=some (.slice (some ⟨C,D,none⟩) E s)/\g.cell? ⟨c,3,none⟩=some (.slice u F A):=by
   refine⟨?_,?_,?_,?_⟩<;>(rw[NA _ _ _ _ _ _ q.1];rfl)
  have a7:=aa q.1;have J:d<g.heap.size:=No O i.size;have z0:=(i.cell (p:=⟨d,h,none⟩) O).trans a2.1;have z1:=(i.cell (p:=⟨d,h+1,none⟩) O).trans a2.2.1;have z2:=(i.cell (p:=⟨d,h+2,none⟩) O).trans a2.2.2;have g6:decide (x.time<0)=false:=NQ (by have:=f.out;omega);clear U;refine NM 2 ?_;rw[NF];go_wp2_with fail;refine zb (kF x.name _ (by have:=f.out;omega)) λl m=>?_
  rw[f.1];have a8:=i.trans (m.mono i.size);have a9:=zh (And.intro (ab q.1 m) (ab q.2 m));have z0:=(m.cell (p:=⟨d,h,none⟩) J).trans z0;have z1:=(m.cell (p:=⟨d,h+1,none⟩) J).trans z1;have z2:=(m.cell (p:=⟨d,h+2,none⟩) J).trans z2;have Q:d<l.heap.size:=No J m.size;clear a3 a4 a5 a6 a7 J
  obtain⟨a3,a4,a5,a6⟩:l.cell? ⟨c,0,none⟩=some (.int .i64 r.now)/\l.cell? ⟨c,1,none⟩=some (.string r.name)/\l.cell? ⟨c,2,none⟩=some (.slice (some ⟨C,D,none⟩) E s)/\l.cell? ⟨c,3,none⟩=some (.slice u F A):=by
   refine⟨?_,?_,?_,?_⟩<;>(rw[NA _ _ _ _ _ _ a9.1];rfl)
  have a7:=aa a9.1;go_wp2_with fail;have f0:=zh (show cu l (.agg #[(r.now:Int),r.name,.slice (some ⟨C,D,none⟩) E s,.slice u F A]) r by have:=d9.below a8;rw[<-H.1,<-H.2.1] at this;exact this);obtain⟨K,c7⟩:=zx ((r.start k x.time).1);obtain⟨f1,c8⟩:=zx ((r.start k x.time).2);have n:=zh (And.intro c7 c8);clear c7 c8;refine aC (S:=(iz l)) 13 zk ?_ (λa=>?_)
  ·(first|exact ax _|exact aj _ _ a L|exact aj _ _ a ze|exact a)
  refine zT 0 ?_;refine zT 1 ?_;refine zT 2 ?_;refine zT 3 ?_;refine zT 4 ?_;refine zT 5 ?_;refine zT 6 ?_;refine zO 7 λf2 b0=>?_
  go_simp;have hq:=yX _ r (k:Int) x.time _ (f0.below a.1) e3 (by unfold aQ;omega) (by have:=f.out;exact this.2.2.2.1);rw[<-n.1,<-n.2] at hq;refine hq.mono ?_;rintro y c9 ⟨rfl,L⟩;clear hq;refine zE b0 (by first|exact ax _|exact aj _ _ a L|exact aj _ _ a ze|exact a) λa=>?_
  refine zT 8 ?_;refine zT 9 ?_;refine zT 10 ?_;refine zT 11 ?_;refine zT 12 ?_;refine zH ?_;have B2:=a8.trans (a.1.mono a8.size);have b1:=zh (ab a9.2 a.1);have z0:=(a.2 d h Q).trans z0;have z2:=(a.2 d (h+2) Q).trans z2;have d0:d<c9.heap.size:=No Q a.1.size;clear a3 a4 a5 a6 a7 a z1 Q;cases f1 with
  |false=>
   have c4:=(bE b1).2;have c5:=aa b1;clear z0 z2 d0;go_wp2_with fail;rw[NF];go_wp2;go_ret;refine⟨_,rfl,?_,B2⟩;have hq:rt r k (some x)=none:=by show(if (r.start k x.time).2=true then some _ else none)=none;rw[NB (by rw[<-n.2];simp)]
   rw[hq];exact eO _ _ _
  |true=>
   have b2:=zh (show 0<=K/\aQ K/\lS K ev=true by
    have M:=n.1;have b3:=n.2;unfold RV.start at M b3;split at M
    ·dsimp only at M
     have b4:=oD (t:=x.time) (e:=ev) (by have:=f.out;omega) (by rw[H.2.2];exact e2.1);rw[show((k:Int)).toNat=k from rfl,<-H.2.2] at M;rw[<-M] at b4;have f3:=f.2.2.2.1;unfold aQ at f3⊢;exact⟨b4.1,⟨zo,zo⟩,b4.2.2⟩
    ·rename_i f4
     rw[NB f4] at b3;cases b3)
   go_wp2_with fail;refine aC (S:=(iz c9)) 14 zk ?_ (λa=>?_)
   ·(first|exact ax _|exact aj _ _ a L|exact aj _ _ a ze|exact a)
   refine zT 0 ?_;refine zT 1 ?_;refine zT 2 ?_;refine zT 3 ?_;refine zT 4 ?_;refine zT 5 ?_;refine zT 6 ?_;refine zT 7 ?_;refine zT 8 ?_;refine zT 9 ?_;refine zT 10 ?_;refine zT 11 ?_;refine zO 12 λf2 b0=>?_
   go_simp;refine zb (Gn x.value _ (by have:=f.2.2.2.2;unfold aQ at this;omega)) λg7 L=>?_;unfold aF.val
   refine zE b0 (by first|exact ax _|exact aj _ _ a L|exact aj _ _ a ze|exact a) λa=>?_
   refine zT 13 ?_;refine zF ?_;go_wp2_with fail;have d1:=B2.trans (a.1.mono B2.size);have f5:=zh (ab b1 a.1);have d2:=Dn (r:=⟨x.name,K,dP x.value⟩) f5 f.1 f.2.1 b2.1 b2.2.1 (by rw[H.2.2];exact e2.2) b2.2.2 (by show(dP x.value).valid=true;unfold aF.valid dP;split<;>simp);refine d2.mono ?_;clear d2 a z0 z2 d0;rintro y g8 ⟨v,rfl,d3,d4,f6,d5⟩;have d6:=zh d3;have f7:=zh d4;have f8:=d1.trans (d5.below (B:=w.heap.size) (λj d7=>by have d7:j=c+1:=d7;have:=Y.out;omega) d1.size);clear d3 d4 f6 d5;have c4:=(bE d6).2;have c5:=aa d6;go_wp2_with fail;rw[NF];go_wp2;go_ret;refine⟨_,rfl,?_,f8⟩;have hq:rt r k (some x)=some ⟨x.name,K,dP x.value⟩:=by show(if (r.start k x.time).2=true then some (⟨x.name,(r.start k x.time).1,dP x.value⟩:ay) else none)=_;rw[NH n.2.symm,<-n.1]
   rw[hq];exact f7
end
def oO:ByteArray:=aO [112,111,108,105,99,121,32,102,105,110,101,10,116,105,101,114,32,114,97,119,32,101,118,101,114,121,32,49,32,107,101,101,112,32,51,48,48,32,115,104,97,114,100,115,32,50,10,116,105,101,114,32,102,105,118,101,115,32,101,118,101,114,121,32,53,32,107,101,101,112,32,54,48,48,32,115,104,97,114,100,115,32,50,10]
def oP:ByteArray:=aO [112,111,108,105,99,121,32,99,111,97,114,115,101,10,116,105,101,114,32,114,97,119,32,101,118,101,114,121,32,49,32,107,101,101,112,32,50,48,32,115,104,97,114,100,115,32,49,10,116,105,101,114,32,116,101,110,115,32,101,118,101,114,121,32,49,48,32,107,101,101,112,32,50,48,48,32,115,104,97,114,100,115,32,51,10,116,105,101,114,32,104,117,110,100,114,101,100,115,32,101,118,101,114,121,32,49,48,48,32,107,101,101,112,32,53,48,48,48,32,115,104,97,114,100,115,32,49,10]
def oQ:ByteArray:=aO [112,111,108,105,99,121,32,111,100,100,10,116,105,101,114,32,114,97,119,32,101,118,101,114,121,32,49,32,107,101,101,112,32,53,48,32,115,104,97,114,100,115,32,52,10,116,105,101,114,32,115,101,118,101,110,115,32,101,118,101,114,121,32,55,32,107,101,101,112,32,55,48,32,115,104,97,114,100,115,32,49,10]
def oR:ByteArray:=aO [112,111,108,105,99,121,32,119,101,98,10,116,105,101,114,32,114,97,119,32,101,118,101,114,121,32,49,32,107,101,101,112,32,49,48,48,32,115,104,97,114,100,115,32,50,10,116,105,101,114,32,116,101,110,115,32,101,118,101,114,121,32,49,48,32,107,101,101,112,32,49,48,48,48,32,115,104,97,114,100,115,32,49,10]
def iW(k:Int):ByteArray:=if k%4=0 then oO else if k%4=1 then oP else if k%4=2 then oQ else oR
def MB(x:Int):bits .and .i64 x 3=x%4:=by
 show IntKind.i64.wrap ((BitVec.ofInt 64 x&&&BitVec.ofInt 64 3).toNat:Int)=_;have a:(BitVec.ofInt 64 3).toNat=2^2-1:=rfl;rw[BitVec.toNat_and,a,Nat.and_two_pow_sub_one_eq_mod,BitVec.toNat_ofInt,IntKind.wrap_i64];omega
def wO(k:Int)(w:Qm):Qo zP 19 #[k] w (aK w (.string (iW k))):=by
 have d:=MB k;obtain⟨m,a⟩:=zx (k%4);have c:iW k=if m=0 then oO else if m=1 then oP else if m=2 then oQ else oR:=by rw[a];rfl
 have e:m=0\/m=1\/m=2\/m=3:=zo;rw[<-a] at d;rw[c];clear c a;rcases e with rfl|rfl|rfl|rfl
 ·go_enter func19,ntmps19
  go_wp2;go_ret;exact⟨rfl,ND _ _⟩
 ·go_enter func19,ntmps19
  go_wp2;go_ret;exact⟨rfl,ND _ _⟩
 ·go_enter func19,ntmps19
  go_wp2;go_ret;exact⟨rfl,ND _ _⟩
 ·go_enter func19,ntmps19
  go_wp2;go_ret;exact⟨rfl,ND _ _⟩
structure tu(w:Qm)(p dp e:Nat)(av:Qn)(o:Option ba)(nm:ByteArray)(pv:Qn)(l:List ah)(tn:ByteArray)(tv:Qn)(tl:List ah):Prop where
 blk:w.heap[p]?=some (.cells #[.pointer (some ⟨dp,0,none⟩),.pointer (some ⟨e,0,none⟩),av,.string nm,pv,.string tn,tv] 34)
 all:aB 3 ba.cells w av o.toList
 pol:aH w pv l
 to_:aH w tv tl
structure JJ(σ:au)(o:Option ba)(nm:ByteArray)(l:List ah):Prop where
 ok:σ.ok
 now:aQ σ.τ.r.now
 nm_:σ.τ.r.name=nm
 l_:σ.τ.r.l=l
 need:σ.need<=σ.room
 tabs:σ.τ.tabs.length=l.length
 es: ∀k,k<l.length->1<=(l.getD k ah.zero).every/\aQ (l.getD k ah.zero).every
 samp: ∀x∈o,bn x.name=true/\x.name.size<=1000000/\0<=x.time/\aQ x.time/\aQ x.value
 recs: ∀k,k<l.length->σ.τ.tabs.getD k none=rt ⟨σ.τ.r.now,nm,l,σ.τ.r.all⟩ k o
def Jb(B:Nat)(n:Int)(nm:ByteArray)(pv:Qn)(l:List Int):br kM:= .rel (λv w=> ∃a,v= .agg #[n,nm,pv,a]/\hM w B a l) (λ_ _ _ e d=>by obtain⟨a,f,c⟩:=e;exact⟨a,f,c.1.below d,aZ c.2 λg h=>d.block g (ar c.2 h).2.1⟩)
section
variable{w:Qm}{p dp e:Nat}{av pv tv:Qn}{o:Option ba}{nm tn:ByteArray}{l tl:List ah}{S:aM}{b:SB}{σ:au}
def yZ(H:Qs (tu w p dp e av o nm pv l tn tv tl))(i4:Qs (bB w e [] 82 S b σ))(d:Qs (JJ σ o nm l)):Qo zP 12 #[p] w (aK w (.bool true)):=by
 obtain⟨c0,J,v,Z,y,K,L⟩:=dT H.blk;have M:=aa H.blk;obtain⟨T,U,f8,-,-,-⟩:=id H.pol;obtain⟨f9,g0,g1,-,-⟩:=id H.all;subst f8 g1;obtain⟨A,b0⟩:=zx (l.length:Nat);obtain⟨g2,c3⟩:=zx (o.toList.length:Nat);have F:=(aN d.ok.pol).1;rw[d.l_,<-b0] at F;rw[<-b0] at y;rw[<-c3] at v;have g:=zh (And.intro b0 (And.intro c3 F));clear b0 c3 F c0 Z K L;go_enter func12,ntmps12;go_wp2_with fail;refine(hT i4 d.ok).mono ?_;rintro x E ⟨i5,rfl,S1,i6,e1⟩;go_wp2_with fail;refine(hJ S1 d.ok).mono ?_;rintro x c4 ⟨t,rfl,g3,N⟩;have B2:=e1.trans (N.mono e1.size);have S2:=S1.below N;obtain⟨i7,i8,i9,j0,e2⟩:=g3;have O:=zh e2;have c5:=zh (ab H.blk B2);clear e2 J v y M;have b1:=O.tiers.1;rw[d.l_] at b1;obtain⟨e3,e4,g4,-,-,-⟩:=id b1;subst g4;have c6:=zh b1;have c7:=H.pol.below B2;obtain⟨c0,J,v,Z,y,K,L⟩:=dT c5;have M:=aa c5;obtain⟨b2,a0,a1,b3,c8⟩:=eB O.blk;have c9:=aa O.blk;rw[d.nm_] at a0;obtain⟨e5,e6,g5,-⟩:=id O.floors.1;subst g5;rw[<-g.1] at y a1 c6 c7;rw[<-g.2.1] at v;clear b1 c0 J K L;go_wp2_with fail;refine aC (S:=(iz c4)) 22 zk ?_ (λa=>?_)
 ·(first|exact ax _|exact aj _ _ a V|exact aj _ _ a ze|exact a)
 refine zT 0 ?_;refine zT 1 ?_;refine zT 2 ?_;refine zT 3 ?_;refine zT 4 ?_;refine zT 5 ?_;refine zT 6 ?_;refine zT 7 ?_;refine zT 8 ?_;refine zT 9 ?_;refine zT 10 ?_;refine zT 11 ?_;refine zO 12 λI f=>?_
 go_simp;refine zb (Dl (l:=l) (by have:=c6.below a.1;exact this) (by have:=c7.below a.1;exact this)) λj1 V=>?_
 refine zE f (by first|exact ax _|exact aj _ _ a V|exact aj _ _ a ze|exact a) λa=>?_
 refine zT 13 ?_;refine zT 14 ?_;refine zT 15 ?_;refine zT 16 ?_;refine zT 18 ?_;refine zO 17 λI f=>?_
 go_simp;refine zb (sT (S2.below a.1) d.ok) λj2 V=>?_
 refine zE f (by first|exact ax _|exact aj _ _ a V|exact aj _ _ a ze|exact a) λa=>?_
 refine zO 19 λI f=>?_
 go_simp;refine zb (kz (S2.below a.1)) λs V=>?_
 refine zE f (by first|exact ax _|exact aj _ _ a V|exact aj _ _ a ze|exact a) λa=>?_
 refine zT 20 ?_;refine zT 21 ?_;refine zH ?_;have d0:=B2.trans (a.1.mono B2.size);have a2:=zh a.1;have d1:=zh (ab c5 a.1);have e7:=zh (ab O.blk a.1);clear a v y b2 a0 a1 b3 c8 M c9;have e8:decide (σ.room<σ.need)=false:=NQ (by have:=d.need;omega);obtain⟨c0,J,v,Z,y,K,L⟩:=dT d1;have M:=aa d1;obtain⟨b2,a0,a1,b3,c8⟩:=eB e7;have c9:=aa e7;rw[d.nm_] at a0;rw[<-g.1] at a1;obtain⟨e9,f0⟩:=zy (σ.τ.r.fl.length:Nat);rw[<-f0] at b3;rw[<-g.1] at y;rw[<-g.2.1] at v;obtain⟨C,f1⟩:=zy (σ.τ.r.all:List Int);obtain⟨D,b4⟩:=zy (σ.τ.r.now:Int);rw[<-b4] at b2;clear c0 J K L c8;have g6:=zh (show cu s (.agg #[(D:Int),nm,.slice e3 A e4,.slice e5 e9 e6]) σ.τ.r from⟨.slice e3 A e4,.slice e5 e9 e6,by rw[b4,d.nm_],by rw[d.l_];exact c6.below a2,by have:=O.floors.1.below a2;rw[<-f0] at this;exact this⟩);rw[e8];go_wp2_with fail;clear e8;refine zJ s 16 (zL [?_,?_,?_,?_,?_,?_,?_,?_,?_,?_,?_,?_,?_]++(JE s.heap.size C)::(Jb s.heap.size D nm (.slice T A U) C)::(Lp s.heap.size (.cells #[(),.string ⟨#[]⟩,z0,z0] 111)):: []) zq ?_;rotate_right
 iterate 13
  refine zV ?_
 refine aT zk rfl rfl ?_ λg7=>?_
 ·intro E c m I f;have a3:=c.2;go_simp;refine(AH _ σ.τ.r _ (g6.below c.1) d.now (by rw[d.l_,<-g.1];have:=g.2.2;omega)).mono ?_;rintro x n ⟨u,rfl,P,Q⟩;have b5:hM n s.heap.size u C:=(by rw[f1];exact⟨P.2,by rw[show σ.τ.r.all.length=σ.τ.r.l.length from RV.allN_len _ _];exact cj P.1 (Nat.le_succ_of_le c.1.size)⟩);exact f.out _ _ _ zg b5 Q
 simp only[zS];refine aT zk rfl rfl ?_ λg8=>?_
 ·intro E c m I f;have a3:=c.2;go_simp;have b5:hM E s.heap.size g7 C:=m.out 13 zk;obtain⟨j3,j4,rfl,-⟩:=id b5.1;go_simp;exact f.out _ _ _ zg ⟨_,rfl,b5⟩ zr
 simp only[zS];refine aT zk rfl rfl ?_ λg9=>?_
 ·intro E c m I f;have a3:=c.2;go_simp;exact f.out _ _ _ zg ⟨_,rfl,c.1.size,Nu _ _⟩ ze
 simp only[zS];refine zA λn c m=>?_
 obtain⟨d2,h0,d3⟩: ∃d2,g8= .agg #[(D:Int),nm,.slice T A U,d2]/\hM n s.heap.size d2 C:=m.out 14;subst h0;obtain⟨a4,a5,rfl,-⟩:=id d3.1;obtain⟨h,rfl,f2,a6⟩: ∃q,g9= .pointer (some ⟨q,0,none⟩)/\s.heap.size<=q/\n.heap[q]?=some (.cells #[(),.string ⟨#[]⟩,z0,z0] 111):=m.out 15;have d4:=zh d3;have f3:=zh a6;have f4:=zh c.1;have h1:=zh f2
 have W:n.cell? ⟨h,0,none⟩=some (.int .i64 0)/\n.cell? ⟨h,1,none⟩=some (.string ⟨#[]⟩)/\n.cell? ⟨h,2,none⟩=some (.slice none 0 0)/\n.cell? ⟨h,3,none⟩=some (.slice none 0 0):=by
  refine⟨?_,?_,?_,?_⟩<;>(rw[NA _ _ _ _ _ _ a6];rfl)
 obtain⟨W,b6,b7,b8⟩:=W;have F:=aa a6;have h2:=λo=>ad (o:=o) a6
 obtain⟨a7,h3⟩:=zy (C.length:Nat);rw[<-h3] at d4⊢;clear m c d3 a6 f2 v y b2 a0 a1 b3 M c9;go_wp2_with fail;obtain⟨X,b9⟩:=zx ((((n.setCell ⟨h,0,none⟩ (.int .i64 D)).setCell ⟨h,1,none⟩ (.string nm)).setCell ⟨h,2,none⟩ (.slice T A U)).setCell ⟨h,3,none⟩ (.slice a4 a7 a5):Qm)
 have d5:Ch (·=h) n X:=by
  rw[b9]
  iterate 4 refine aP ?_ (.inl rfl)
  exact Ch.refl _ _
 have h4:=zh (show X.heap[h]?=some (.cells #[(D:Int),nm,.slice T A U,.slice a4 a7 a5] 111) by rw[b9,al (al (al (al f3 _) _) _) _];rfl)
 have h5:=zh (show aE X (.slice a4 a7 a5) C from d4.1.ch_ d5 (λj c1 e=>by
  have e:j=h:=e;obtain⟨-,-,j5,a8⟩:=ar d4.2 (yS c1);have d6:=f3.out;rw[e,d6] at a8;injection a8 with a8
  injection a8 with a8 h6
  revert h6
  decide))
 have a9:=zh (show Qr s.heap.size s X from f4.trans (d5.below (B:=s.heap.size) (λj c1=>by have c1:j=h:=c1;have:=h1.out;omega) f4.size));rw[<-b9];clear b9 d5 W b6 b7 b8 F h2;go_wp2_with fail;go_loopw [6] (λi wr=> ∃(k:Nat),k<=A/\i= .int .i64 k/\Qs (Qr X.heap.size X wr)) (λi _=>A-(intOf i).toNat)
 case atStart=>exact⟨0,Nx _,rfl,zh zr⟩
 case round=>
  obtain⟨k,j6,rfl,R⟩:=hrel;have f5:=zh (ab (ab d1 a9) R);have h7:=zh (ab h4 R);obtain⟨c0,J,v,Z,y,K,L⟩:=dT f5;have M:=aa f5;rw[<-g.1] at y;rw[<-g.2.1] at v;have d7:=h7.out
  obtain⟨W,b6,b7,b8⟩:wr.cell? ⟨h,0,none⟩=some (.int .i64 D)/\wr.cell? ⟨h,1,none⟩=some (.string nm)/\wr.cell? ⟨h,2,none⟩=some (.slice T A U)/\wr.cell? ⟨h,3,none⟩=some (.slice a4 a7 a5):=by
   refine⟨?_,?_,?_,?_⟩<;>(rw[NA _ _ _ _ _ _ d7];rfl)
  have F:=aa d7;clear d7 c0 J Z K L;by_cases d8:k<A
  ·obtain⟨Y,d9⟩:=zx (σ.τ.tabs.getD k none:Option ay)
   have f6:=zh (And.intro d9 (show Y=rt ⟨D,nm,l,C⟩ k o by rw[d9,b4,f1];exact d.recs k (by rw[<-g.1];exact d8)));have N:Qr c4.heap.size c4 wr:=(a2.trans (a9.mono a2.size)).trans (R.mono (Nq a2.size a9.size));have h8:=O.below N;have h9:=zh (show cu wr (.agg #[(D:Int),nm,.slice T A U,.slice a4 a7 a5]) ⟨D,nm,l,C⟩ from⟨_,_,rfl,by have:=c7.below N;exact this,h5.below R⟩);have i0:=zh (show aB 3 ba.cells wr (.slice f9 g2 g0) o.toList by have:=(H.all.below B2).below N;rw[<-g.2.1] at this;exact this);have f7:=zh (show k<σ.τ.tabs.length/\σ.τ.tabs.length<=100 by rw[d.tabs,<-g.1];exact⟨d8,by have:=g.2.2;omega⟩);have e0:=zh (show k<l.length/\l.length<=100 by rw[<-g.1];exact⟨d8,by have:=g.2.2;omega⟩);clear d9 N;go_wp2_with fail;refine zJ wr 12 (zL [?_,?_]++(vS Y.toList)::zL [?_,?_,?_,?_,?_,?_]++(vS Y.toList)::zL [?_,?_]) zq ?_;rotate_right
   iterate 2
    refine zV ?_
   refine aT zk rfl rfl ?_ λi1=>?_
   ·intro E c m I f;have a3:=c.2;go_simp;refine(gG (h8.below c.1) k f7.1 f7.2).mono ?_;rintro x n ⟨u,rfl,P,Q⟩;exact f.out _ _ _ zg (by have c2:=(aB.own P).1;rw[<-f6.1] at c2;exact c2) Q
   simp only[zS]
   iterate 6
    refine zV ?_
   refine aT zk rfl rfl ?_ λi2=>?_
   ·intro E c m I f;have a3:=c.2;go_simp;refine(Do (r:=⟨D,nm,l,C⟩) (k:=k) (o:=o) (h9.below c.1) e0.1 e0.2 (by rw[b4];exact d.now) (i0.below c.1) (d.es k e0.1) d.samp).mono ?_;rintro x n ⟨u,rfl,P,Q⟩;exact f.out _ _ _ zg (by rw[<-f6.2] at P;exact P) Q
   simp only[zS];refine aw zk rfl rfl ?_ ?_
   ·intro E c m I f;have a3:=c.2;go_simp;have d6:aB 7 ay.cells E i1 Y.toList:=m.out 2 zk;have c2:aB 7 ay.cells E i2 Y.toList:=m.out 9 zk;refine zb (Dm (o:=Y) d6 c2) λn Q=>?_;exact f.out _ _ zz Q
   refine zV ?_;refine zD λj7 c m=>?_
   have i3:=zh c.1;clear c m v y M W b6 b7 b8 F;have j8:k<5:=by have:=g.2.2;omega
   go_wp2;go_roundw
   case rel=>exact⟨k+1,zo,by go_num,(R.trans (i3.mono R.size))⟩
   case measure=>simp[intOf];omega
  ·clear W b6 b7 b8 F
   go_wp2;go_ret;exact⟨rfl,(d0.trans (a9.mono d0.size)).trans (R.mono (Nq d0.size a9.size))⟩
end
def ru:(zP.info? 42).map (λi=>(i.zero,i.size,i.bytes))=some (some (.agg #[ByteArray.empty,(),()]),3,32):=zk
section
variable{w w':Qm}{p dp e:Nat}{av pv tv:Qn}{o:Option ba}{nm tn:ByteArray}{l tl:List ah}{S S2:aM}{b b1:SB}{σ σ1:au}{F:Nat->Prop}
def fD{v:Qn}(s:aH w v l)(i:Ch F w w')(t: ∀j,aD v j-> ¬F j):aH w' v l:=by
 obtain⟨a,c,rfl,m,n,o⟩:=s;refine⟨a,c,rfl,m,n,λf=>?_⟩;obtain⟨g,z,rfl,h,p⟩:=o f;have q: ¬F g:=t g ⟨λe=>f (NI e),rfl⟩;refine⟨g,z,rfl,No h i.size,λj r=>?_⟩;have d: ∀k,w'.cell? ⟨g,k,none⟩=w.cell? ⟨g,k,none⟩:=λk=>bT i h q
 rw[d,d,d,d];exact p j r
structure uA(w:Qm)(p e:Nat)(pv tv:Qn)(S:aM)(b:SB):Prop where
 blk: ¬EF w e S b p
 pol: ∀j,aD pv j-> ¬EF w e S b j
 to_: ∀j,aD tv j-> ¬EF w e S b j
 np: ∀j,aD pv j\/aD tv j->j≠p
def bB.ch_{r:List Qn}{T:Qp}(c:bB w e r T S b σ)(d:Ch F w w')(f: ∀k,EF w e S b k-> ¬F k):bB w' e r T S b σ:=by
 have g:=(c.sto.disk.ch_ c.sto.keep d λk a=>f k (.inl (.inr a))).2;exact⟨c.sto.ch d λk a=>f k (.inl a),c.st.step d.size λk a=>d.block k (c.st.lt a) (f k (.inr a)),λk a h=>c.ap k a (h.imp id (g k).1)⟩
def KX(k:Int)(x:ba):Option ba:=if k=0 then some x else none
def Lv(w:Qm)(p dp e:Nat)(nm:ByteArray)(pv:Qn)(l:List ah)(tn:ByteArray)(tv:Qn)(tl:List ah)(S:aM)(S2:aM)(b:SB)(σ1:au)(o:Option ba)(k:Int)(x:Qq)(w':Qm):Prop:=
 x= .returned (.int .i64 k)/\ ∃b1 av,tu w' p dp e av o nm pv l tn tv tl/\bB w' e [] 82 S2 b1 σ1/\Ch (λj=>EF w e S b j\/j=p) w w'
def Be{k:Int}{v:Qn}{x:ba}(H:Qs (tu w p dp e (.slice none 0 0) none nm pv l tn tv tl))(n:Qs (bB w e [] 82 S b σ))(g:Qs (uA w p e pv tv S b))(c3:Qs (aB 3 ba.cells w v [x]))(e3:Qs (∀j,aD v j-> ¬EF w e S b j/\j≠p))
 (e4:Qs (∀B,Qr w.heap.size w B->bB B e [] 82 S b σ->Qo zP 34 #[e,v] B (jo B e [] 82 S b S2 σ1 (.int .i64 k)))):
 Qo zP 11 #[p,.agg #[(1:Int),(),v,.string ⟨#[]⟩,z0]] w (Lv w p dp e nm pv l tn tv tl S S2 b σ1 (KX k x) k):=by
 obtain⟨va,vc,rfl,-,-⟩:=id c3;go_enter func11,ntmps11;go_wp2_with fail;obtain⟨f,C⟩:=zx (w.alloc (.cells #[(1:Int),(),.slice va (1:Nat) vc,.string ⟨#[]⟩,z0] 55):Qm);obtain⟨q,r⟩:=zy (w.heap.size:Nat);have i:=zh (show Qr w.heap.size w f by rw[C];exact ak _ _);have N:=zh (show f.heap[q]?=some (.cells #[(1:Int),(),.slice va (1:Nat) vc,.string ⟨#[]⟩,z0] 55) by rw[C,r];exact Nu _ _);have O:=zh (ab H.blk i);rw[<-C,<-r];clear C;obtain⟨c0,P,D,Q,R,T,U⟩:=dT O;have m:=aa O;obtain⟨V,W,X,Y,Z⟩:=eB N;have E:=aa N;clear c0 D Q R T U V W Y Z;have a0:=bZ.refl n i;have e5:=zh (show uA f p e pv tv S b from⟨λd=>g.blk (n.ef_below i d),λj a d=>g.pol j a (n.ef_below i d),λj a d=>g.to_ j a (n.ef_below i d),g.np⟩);refine aC (S:=(iz f)) 7 zk ?_ (λc=>?_)
 ·(first|exact ax _|exact aj _ _ c r|exact aj _ _ c ze|exact c)
 refine zT 0 ?_;refine zT 1 ?_;refine zT 2 ?_;refine zT 3 ?_;refine zT 4 ?_;refine zT 5 ?_;refine zT 6 ?_;refine zF ?_;go_wp2_with fail;have s:Qr f.heap.size f f.drew:=zr.drew;have a6:=a0.fresh s;have a7:=e4 f.drew (i.trans (s.mono i.size)) a6.at_;refine a7.mono ?_;clear a7;rintro y h ⟨rfl,b1,a8,F⟩;have a1: ∀j,EF f.drew e S b j->EF w e S b j:=λj a=>n.ef_below i (a0.at_.ef_below s a)
 have a9:h.heap[p]?=f.heap[p]?:=(F.ch.block p m λd=>g.blk (a1 p d)).trans rfl;have b0:h.heap[q]?=f.heap[q]?:=(F.ch.block q E λd=>by have:=n.lt (a1 q d);have:=r.out;omega).trans rfl;have t:=a9.trans O;have b2:=b0.trans N;have E2:=zh ((a0.fresh s).trans F);have I:=zh (show Ch (EF w e S b) w h from E2.ch);have e6:=zh a8;have c4:=zh (show∀j,j<w.heap.size-> ¬EF w e S b j-> ¬EF h e S2 b1 j from λj a c5=>(E2.out_ a c5).2);clear F a1 a9 b0 a8 a6 s c P X m E;obtain⟨c0,P,D,Q,R,T,U⟩:=dT t;have m:=aa t;have b3:=λo=>ad (o:=o) t
 obtain⟨V,W,X,Y,Z⟩:=eB b2;have E:=aa b2;clear c0 P Q R T U V W Y Z;have b4:=fD H.pol I g.pol;have b5:=fD H.to_ I g.to_;have c6:=c3.ch I λj a=>(e3 j a).1
 by_cases J:k=0
 ·subst J
  have a2:Qs (KX 0 x=some x):=rfl;obtain⟨c7,c8,c9,d0,d1⟩:=info_parts ru;have d2:=zh (show∀z∈ [x],∀y∈ba.cells z,y.oneCell'=true by intro z d3 y b6;obtain rfl:=Nz.1 d3;simp only[ba.cells,NL,NJ,Ou] at b6;rcases b6 with rfl|rfl|rfl<;>rfl);go_wp2_with fail;refine aC (S:=(iz h)) 11 zk ?_ (λc=>?_)
  ·(first|exact ax _|exact aj _ _ c r|exact aj _ _ c ze|exact c)
  refine zT 0 ?_;refine zT 1 ?_;refine zT 2 ?_;refine zT 3 ?_;refine zT 4 ?_;refine zT 5 ?_;refine zT 6 ?_;refine zT 7 ?_;refine zO 8 λe7 d4=>?_
  rw[NH (by simp[Region.wanted])];refine bX (enc:=ba.cells) _ _ 29 rfl h.heap.size 42 c7 _ 32 underlying29 c8 c9 d0 d1 rfl zd _ _ 0 [] [x] rfl zw rfl (c6.below c.1) (λ_=>rfl) d2 (by show(0+1)*32<140737488355328;decide) zd c.1.size (λe8 w7 a3 b7 d5=>?_);have d6:=eU b7;have d7:=zh a3;obtain⟨u,A,rfl⟩:=az a3;clear a3 b7 d5;refine zE d4 (by first|exact ax _|exact aj _ _ c d6|exact aj _ _ c ze|exact c) λc=>?_
  refine zT 9 ?_;refine zT 10 ?_;refine zF ?_;have a4:=E2.fresh c.1;have K:=zh (ab t c.1);have d8:=aB.own (l:= [x]) (enc:=ba.cells) (k:=3) (show w7.ownsRow h.heap.size 42 3 _ [x].length ([x].flatMap ba.cells) from by have:=d7.out;simpa using this);have b8:=zh (And.intro (b4.below c.1) (b5.below c.1));have b9: ¬EF w7 e S2 b1 p:=λd=>c4 p (aa H.blk) g.blk (E2.at_.ef_below c.1 d)
  have c1:=zh (And.intro a4.at_ b9);have d9:=zh (show Ch (λj=>EF w e S b j\/j=p) w w7 from a4.ch.mono λj _ a=> .inl a);have e0:=zh (show p<h.heap.size from m);clear a4 b9 D m b3 X E c;have m:=aa K;have b3:=λo=>ad (o:=o) K
  have D:=(dT K).2.2.1;go_wp2_with fail;have c2:=zh (show aB 3 ba.cells w7 (.slice u (1:Nat) A) [x]/\iX h.heap.size (.slice u (1:Nat) A) from d8);obtain⟨a5,L⟩:=zx (w7.setCell ⟨p,2,none⟩ (.slice u 1 A):Qm);have M:Ch (·=p) w7 a5:=by rw[L];exact aP (Ch.refl _ _) (.inl rfl)
  have e1:a5.heap[p]?=some (.cells #[dp,e,.slice u (1:Nat) A,nm,pv,tn,tv] 34):=by rw[L,al K];rfl
  have e2:Ch (λj=>EF w e S b j\/j=p) w a5:=by rw[L];exact aP d9 (.inl (.inr rfl))
  rw[<-L];go_ret;refine⟨rfl,b1,.slice u (1:Nat) A,⟨e1,?_,fD b8.1 M λj a=>g.np j (.inl a),fD b8.2 M λj a=>g.np j (.inr a)⟩,c1.1.ch_ M λj a d=>c1.2 (by have d:j=p:=d;rw[<-d];exact a),e2⟩;rw[a2]
  exact c2.1.ch M λj a d=>by
   have d:j=p:=d;have e9:=fC c2.2 a;have f0:=e0.out;omega
 ·have f1:(k==0)=false:=by simpa using J
  have f2:decide (k=0)=false:=by simpa using J
  have a2:Qs (KX k x=none):=NB J;go_wp2;go_ret;exact⟨rfl,b1,.slice none 0 0,⟨t,by rw[a2];exact eO _ _ _,b4,b5⟩,E2.at_,I.mono λj _ a=> .inl a⟩
end
def kG(w:Qm)(nm:ByteArray)(l:List ah)(x:Qq)(w':Qm):Prop:=
 ∃a,x= .returned (.tuple #[.agg #[nm,a],(),()])/\Qs (aH w' a l)/\Qs (∀j,aD a j->w.heap.size<=j)/\Qs (Qr w.heap.size w w')
structure za(w:Qm)(p dp e:Nat)(pv:Qn)(nm:ByteArray)(l:List ah)(S:aM)(b:SB)(w':Qm):Prop where
 top:tu w' p dp e (.slice none 0 0) none nm pv l ⟨#[]⟩ (.slice none 0 0) []
 eng:bB w' e [] 82 S b (ik nm l)
 out:uA w' p e pv (.slice none 0 0) S b
 fmt: ∃B,KW dp B 0 (DV.fresh 90) (ik nm l) S
 ge: ∀k,EF w' e S b k->w.heap.size<=k
 bel:Qr w.heap.size w w'
 pge:w.heap.size<=p
def Jc(w:Qm)(nm:ByteArray)(l:List ah)(x:Qq)(w':Qm):Prop:=
 ∃p dp e pv S b,x= .returned (.tuple #[.pointer (some ⟨p,0,none⟩),.bool true])/\za w p dp e pv nm l S b w'
section
variable{w:Qm}
def rx:DG (DV.fresh 90) 0:=⟨rfl,rfl,rfl,rfl,zd⟩
def Dp{B0:Nat}{m k:Int}{nm:ByteArray}{l:List ah}(a5:Qs (cl B0 w))(a6:Qs (0<B0))(d0:Qs (w.cell? ⟨0,0,none⟩=some (.int .i64 m)))(t:fR (iW k) nm l)(a7:cD nm l=true)(T:(iW k).size<=1000000)
 (a8:Qs (∀f,Qo zP 20 #[.string (iW k)] f (kG f nm l)))
 (d1:Qs (∀S0:aM,S0.c<=18->S0.d=pi (DV.fresh 90)->S0.gen=0->S0.id=0->S0.ps= []->S0.V.pure=dm []->dZ S0 (ik nm l) 19)):
 Qo zP 5 #[.int .i64 k] w (Jc w nm l):=by
 have U:=λf=>wO k f
 obtain⟨a9,F⟩:=zx (iW k);rw[<-F] at t T a8;have H:=zh (And.intro t (And.intro a7 T));have V:=zh (show∀f,Qo zP 19 #[.int .i64 k] f (aK f (.string a9)) by rw[F];exact U);clear t a7 T U F;go_enter func5,ntmps5;go_wp2_with fail;refine(Aw 90 w zd).mono ?_;rintro x f ⟨dp,rfl,b0,W⟩;go_wp2_with fail;refine(V f).mono ?_;rintro x b1 ⟨rfl,I⟩;have B2:=W.trans (I.mono W.size);have X:=zh (b0.step I)
 have J:=zh (show∀j,cL b1 dp j->w.heap.size<=j from λj d=>by
  obtain⟨d2,d3,d4,d5,hq⟩:=X.out;have Y:=hq.ge;rcases(hq.own_iff j).1 d with d|d|d|d
  ·omega
  ·omega
  ·omega
  ·exact(ar hq.waits d).1)
 clear I;go_wp2_with fail;have K:=a5.1;refine(wG (B0:=B0) (n:=0) (m:=m) (a5.fresh B2) X rfl (λj d=>Nq K (J j d)) rx zd zd H.1 H.2.1 H.2.2 ((B2.cell (p:=⟨0,0,none⟩) (No a6 K)).trans d0) a6 (λS0 _ _ A o L b2 b3 b4=>d1 S0 zo o L b2 b3 b4)).mono ?_;rintro x h ⟨e,S,b,rfl,M,b5,C,b6⟩;have b7:=zh (show∀j,EF h e S b j->w.heap.size<=j from λj d=>(C j d).elim (J j) λv=>Nq B2.size v);have N:=B2.trans (b5.below (B:=w.heap.size) (λj d=>J j d) B2.size);clear K;go_wp2_with fail;refine(V h).mono ?_;rintro x b8 ⟨rfl,Z⟩;have O:=zh Z;clear Z;go_wp2_with fail;refine(a8 b8).mono ?_;rintro x q ⟨b9,rfl,P,c1,c2⟩;have Q:=O.trans (c2.mono O.size);have a0:=zh (show∀j,aD b9 j->h.heap.size<=j from λj d=>Nq O.size (c1 j d));obtain⟨i,r,rfl,-,-,-⟩:=id P;obtain⟨s,c3⟩:=zy (l.length:Nat);rw[<-c3] at P a0⊢;go_wp2;obtain⟨p,t⟩:=zx (q.heap.size+1:Nat);obtain⟨u,D⟩:=zx ((q.alloc (.cells #[nm,.slice i s r] 32)).alloc (.cells #[dp,e,z0,nm,.slice i s r,.string ⟨#[]⟩,z0] 34):Qm);have a1:Qr q.heap.size q u:=by rw[D];exact ai ze ze
 have c4:u.heap[p]?=some (.cells #[dp,e,z0,nm,.slice i s r,.string ⟨#[]⟩,z0] 34):=by rw[D];exact ag zu
 have R:Qr h.heap.size h u:=Q.trans (a1.mono Q.size);have c5:=M.below R;have C: ∀j,EF u e S b j->EF h e S b j:=λj d=>M.ef_below R d
 have a2: ∀j,EF u e S b j->j<h.heap.size:=λj d=>M.lt (C j d)
 have d6:h.heap.size<=p:=by have:=Q.size;omega
 have a3:aH q (.slice i s r) l:=P;have a4: ∀j,¬aD (.slice none 0 0) j:=λj v=>v
 have c6: ∀j,aD (.slice i s r) j->j<q.heap.size:=λj d=>by
  obtain⟨a,c,y,-,-,L⟩:=a3;obtain⟨d7,d8⟩: ∃_:True,True:=⟨trivial,trivial⟩;cases i with
  |none=>exact d.elim
  |some d9=>
   obtain⟨A,o⟩:=d;injection y with E c7 e0
   obtain⟨g,z,Y,e1,-⟩:=L (λc8=>A (by rw[c7,c8];rfl));rw[Y] at E;injection E with E
   rw[E] at o;have o:g=j:=o;omega
 have c9:za w p dp e (.slice i s r) nm l S b u:=⟨⟨c4,eO _ _ _,a3.below a1,⟨none,0,rfl,zm,zm,λv=>absurd rfl v⟩⟩,c5,⟨λy=>by have:=a2 p y;omega,λj d y=>by have A:=a2 j y;have o:=a0 j d;omega,λj d=>(a4 j d).elim,λj d=>d.elim (λd=>by have:=c6 j d;omega) λd=>(a4 j d).elim⟩,⟨_,b6⟩,λj d=>b7 j (C j d),N.trans (R.mono N.size),by have A:=N.size;omega⟩;rw[<-D,<-t];clear D t;go_ret2;exact⟨p,dp,e,_,S,b,rfl,c9⟩
end
end Go.Proofs.YtdflhgceeloijaaGreatDoor
