import Derived.Test.YtdflhgceeloijaaGreatDoorZ1
import Derived.Test.YtdflhgceeloijaaGreatDoorZ12
import Derived.Test.YtdflhgceeloijaaGreatDoorZ13
set_option linter.all false
set_option maxRecDepth 100000
set_option maxHeartbeats 16000000
namespace Go.Proofs.YtdflhgceeloijaaGreatDoor
open Go Go.RowKit Tryz
open Tryz renaming prog→zP
open Go renaming World→Qm,Value→Qn,Calls→Qo,TypeId→Qp,Ending→Qq
open Go.RowKit renaming Below→Qr,Hid→Qs
structure By(B:Nat)(J:Nat->Nat->(Nat->Prop)->Qm->Prop)(N:Nat)(S:Nat->cK)(An:Nat->ByteArray):Prop where
 ch: ∀k q F G w w',J k q F w->Ch G w w'->(∀j,F j-> ¬G j)->(∀j,G j->B<=j)->J k q F w'
 lt: ∀k q F w,J k q F w-> ∀j,F j->B<=j/\j<w.heap.size
 step: ∀k q F w v,k<N->J k q F w->cl B w->cg w v (S k)->Qo zP 57 #[.pointer (some ⟨q,0,none⟩),v] w (λx w'=>x= .returned (.string (An k))/\J (k+1) q (λj=>F j\/w.heap.size<=j/\j<w'.heap.size) w'/\Ch F w w')
def Ea(S:Nat->cK)(L An:Nat->ByteArray)(k:Nat):ByteArray:=⟨#[62,32]⟩++rK (S k) (L k)++An k++⟨#[10]⟩
def xr(S:Nat->cK)(L An:Nat->ByteArray):Nat->List UInt8
 |0=> []
 |k+1=>xr S L An k++(Ea S L An k).data.toList
structure JL(T l0 pw tx:ByteArray)(ls:List ByteArray)(N:Nat)(W L:Nat->ByteArray)(Ws:Nat->List ByteArray)(An:Nat->ByteArray):Prop where
 sz:T.size<=1000000
 pc:bU T ⟨#[10]⟩=l0::ls
 n:ls.length=N/\N<=100/\1<=N
 join:(Lib.join (ls.map (·.data.toList)) [10]).length<=50000
 lines: ∀k x,ls[k]?=some x->js x (W k) (L k) (Ws k)
 fine: ∀k,k<N->(xD (W k) (L k) (Ws k)).fine (L k)/\Jp (xD (W k) (L k) (Ws k)) (L k)
 lt: ∀k,k<N->(rK (xD (W k) (L k) (Ws k)) (L k)).size<=1000/\(An k).size<=1000
def Hk{S:Nat->cK}{L An:Nat->ByteArray}{k:Nat}(h:(rK (S k) (L k)).size<=1000/\(An k).size<=1000):(Ea S L An k).size<=2003:=by
 unfold Ea;rw[Oh,Oh,Oh];have e1:(⟨#[62,32]⟩:ByteArray).size=2:=rfl;have e2:(⟨#[10]⟩:ByteArray).size=1:=rfl;omega
def xt{S:Nat->cK}{L An:Nat->ByteArray}: ∀k,(∀i,i<k->(rK (S i) (L i)).size<=1000/\(An i).size<=1000)->(xr S L An k).length<=2003*k
 |0,_=>by simp[xr]
 |k+1,h=>by
  have h1:=xt k λi hi=>h i zo
  have h2:=Hk (h k zo);unfold xr;rw[Nw];have:(Ea S L An k).data.toList.length=(Ea S L An k).size:=zm;omega
def Al{w:Qm}{b n c:Nat}{x:ByteArray}{l:List ByteArray}(h:bq w (.slice (some ⟨b,0,none⟩) n c) (x::l)):bq w (.slice (some ⟨b,1,none⟩) l.length (c-1)) l/\l.length+1<=c/\b<w.heap.size/\ ∀j y,l[j]?=some y->w.cell? ⟨b,1+j,none⟩=some (.string y):=by
 obtain⟨a,c',e,h1,h2,h3⟩:=h;obtain⟨b',o',rfl,h4,h5⟩:=h3 zm;injection e with e1 e2 e3
 injection e1 with e1
 injection e1 with e1 e4
 subst e1 e3 e4
 have h6: ∀j,j<l.length->w.cell? ⟨b,1+j,none⟩=some (.string (l.getD j ByteArray.empty)):=λj hj=>by
  have:=h5 (j+1) (by simp;omega);rw[Ok,Nat.add_comm j 1] at this;rw[this,Nat.add_comm 1 j];rfl
 have h7:l.length+1<=c:=h2.1;refine⟨⟨_,c-1,rfl,λs hs=>h1 s (Oj _ hs),⟨zo,by have:=h2.2;omega⟩,λ_=>⟨b,1,rfl,h4,h6⟩⟩,h7,h4,λj y hy=>?_⟩;have hj:j<l.length:=(Ny.1 hy).1;rw[h6 j hj,Nr,hy];rfl
def Hl{w:Qm}{m:Int}{T c2 f3 f4:ByteArray}{K:List ByteArray}{N:Nat}{A L:Nat->ByteArray}{B:Nat->List ByteArray}{An:Nat->ByteArray}{J:Nat->Nat->(Nat->Prop)->Qm->Prop}(n7:Qs (cl w.heap.size w))(i9:Qs (w.cell? ⟨0,0,none⟩=some (.int .i64 m)))(j0:Qs (0<w.heap.size))
 (g:Qs (JL T c2 f3 f4 K N A L B An)) (n8:Qs (∀f v,Qr w.heap.size w f->bq f v (c2::K)->Qo zP 49 #[v] f (aK f (.tuple #[.int .i64 90,.string f3,.int .i64 1]))))
 (n9:Qs (∀f,Qr w.heap.size w f->Qo zP 54 #[.string f3] f (aK f (.string f4))))
 (o0:Qs (∀f,Qr w.heap.size w f->Qo zP 53 #[.int .i64 90,.string f4] f (λx w'=> ∃q F,x= .returned (.tuple #[.pointer (some ⟨q,0,none⟩),.int .i64 0])/\J 0 q F w'/\Qr f.heap.size f w'/\ ∀j,F j->f.heap.size<=j)))
 (D:Qs (By w.heap.size J N (λk=>xD (A k) (L k) (B k)) An)):
 Qo zP 16 #[.string T] w (aK w (.string ⟨(xr (λk=>xD (A k) (L k) (B k)) L An N).toArray⟩)):=by
 obtain⟨S,O⟩:=zy (λk=>xD (A k) (L k) (B k):Nat->cK);rw[<-O] at D⊢;go_enter func16,ntmps16;go_wp2_with fail;refine(nk T ⟨#[10]⟩ m w g.sz zd i9).mono ?_;rw[g.pc];rintro x f ⟨f5,c3,rfl,j1,c4,a1⟩;have c5:=zh c4;have f6:=zh a1;have c6:(c2::K).length=N+1:=by rw[<-g.n.1];rfl
 have c5:=zh (show bq f (.slice (some ⟨f5,0,none⟩) (N+1) c3) (c2::K) by rw[<-c6];exact c4);rw[c6];clear j1 c4 a1 c6;go_wp2_with fail;refine(n8 f _ f6 c5).mono ?_;rintro x j2 ⟨rfl,f7⟩;have B2:=zh (ai f6 f7);have j3:=zh (c5.below f7);obtain⟨f8,j4,f9,g0⟩:=Al j3;have g1:=zh f8;have j5: ¬c3=1:=by have:=g.n;omega
 have c7:=zh (strings_Join f5 1 (c3-1) K ⟨#[10]⟩ j2 g0 f9 (by have:=g.n;omega) zo (Nq g.join zd));rw[g.n.1] at c7 g1;obtain⟨g2,c8⟩:=zx (⟨(Lib.join (K.map (·.data.toList)) (⟨#[10]⟩:ByteArray).data.toList).toArray⟩:ByteArray);have j6:g2.size<=50000:=by rw[c8];show(List.toArray _).size<=_;simpa using g.join
 rw[<-c8] at c7;have j7:decide ((50000:Int)<(g2.size:Int))=false:=NQ zo;clear f8 j4 f9 g0 c8;go_wp2_with fail;refine c7.mono ?_;rintro x o1 ⟨rfl,c9⟩;have d0:=zh (ai B2 c9);have j8:=zh (g1.below c9);clear c9;go_wp2_with fail;have d1:=Ai A L B ((d0.cell (p:=⟨0,0,none⟩) j0).trans i9) (No j0 d0.size) j8 (by have:=g.n;omega) g.lines;rw[g.n.1,<-O] at d1;have j9:=zh d1;clear d1 j6 j7;refine j9.mono ?_;rintro x E ⟨sv,P,rfl,d2,g3⟩;have a2:=zh d2;have g4:=zh (ai d0 g3);obtain⟨k0,k1,rfl⟩:=az d2.own;clear d2 g3 j5;go_wp2_with fail;refine(n9 E g4).mono ?_;rintro x t ⟨rfl,a3⟩;have Q:=zh (ai g4 a3);go_wp2_with fail;refine(o0 t Q).mono ?_;rintro x C ⟨q,F,rfl,g5,R,g6⟩;have d3:=zh (And.intro g5 g6);have o2:=zh (ai Q R);have o3:=zh (ai a3 R);have g7:=zh (And.intro a3.size R.size);have k2:=zh R;clear g5 R g6;go_wp2_with fail;have d4:aB 3 ed.cells E (.slice k0 N k1) P:=(aB.own (by rw[a2.len];exact a2.own)).1;have o4:=g.n.2.2;have g8:P.length=N:=a2.len;obtain⟨a4,os,rfl,a5,-⟩:=d4.elem (λ_=>rfl) (j:=0) (x:=P[0]'zo) (Np zo)
 have k3:=zh (λ(k:Nat) (c:ed) (g9:P[k]?=some c)=>show∀i u,(ed.cells c)[i]?=some u->E.cell? ⟨a4,os+k*3+i,none⟩=some u from by
  obtain⟨o5,o',e,-,h⟩:=d4.elem (λ_=>rfl) g9;injection e with e
  injection e with a6 a7
  subst a6 a7;exact h)
 have k4:=zh g8;obtain⟨l,a8⟩:=zx C.heap.size;obtain⟨a9,b0⟩:=zx (C.alloc (.cells #[.pointer none,.slice none 0 0] 136):Qm);have d5:Qr C.heap.size C a9:=by rw[b0];exact ak _ _
 obtain⟨M,U⟩:=zx t.heap.size;have h0:M<=l:=by rw[U,a8];exact g7.2
 have k5:=zh (show Eh a9 M l [] (λk=>k=l) from⟨h0,.pointer none,.slice none 0 0,.inl rfl,by rw[b0,a8];exact Nu _ _,World.ownsRow_nil _ _ _ _,(by intro e;cases e),λk=>⟨.inl,λh=>h.elim id λe=>by cases e⟩⟩);have k6:=zh (D.ch 0 q F (λ_=>False) C a9 d3.1 (Ch.fresh d5) (λ_ _ e=>e) λ_ e=>e.elim);have h1:=zh (show(∀j,j=l-> ¬F j)/\ ∀j,F j->M<=j from⟨λj d o=>by have:=(D.lt 0 q F C d3.1 j o).2;omega,λj d=>by rw[U];exact d3.2 j d⟩);have k7:=zh (show Qr M t a9 by rw[U];exact ai (show Qr t.heap.size t C from k2) d5);have b1:=zh (show E.heap.size<=M/\w.heap.size<=M by rw[U];exact⟨g7.1,Q.size⟩);rw[<-b0,<-a8];clear d4 g8 b0 d5 a8 U h0;go_loopw [62] (λi wr=> ∃(k:Nat),k<=N/\i= .int .i64 k/\ ∃F V,Qs (J k q F wr)/\Qs (Eh wr M l (xr S L An k) V)/\Qs (∀j,V j-> ¬F j)/\Qs (∀j,F j->M<=j)/\Qs (Qr M t wr)) (λi _=>N-(intOf i).toNat)
 case atStart=>exact⟨0,Nx _,rfl,F,_,k6,k5,zh h1.1,zh h1.2,k7⟩
 case round=>
  obtain⟨k,g9,rfl,F,V,k8,r,d6,h2,W⟩:=hrel;by_cases b2:k<N
  ·obtain⟨c,d7⟩: ∃c,P[k]?=some c:=⟨_,Np (by have:=k4.out;omega)⟩
   have H:=a2.at_ k c d7;have b3:=k3 k c d7;obtain⟨b4,k9,l0⟩:=c;obtain⟨d8,d9,e0,rfl⟩: ∃a n c,k9= .slice a n c:=by obtain⟨a,c,e,-⟩:=H.2.1;exact⟨a,_,c,e⟩
   obtain⟨e1,e2,e3,rfl⟩: ∃a n c,l0= .slice a n c:=by obtain⟨a,c,e,-⟩:=H.2.2;exact⟨a,_,c,e⟩
   have y:Qr E.heap.size E wr:=a3.trans (W.mono b1.1);have h3:=(y.cell (p:=⟨a4,os+k*3+0,none⟩) a5).trans (b3 0 _ rfl);have l1:=(y.cell (p:=⟨a4,os+k*3+1,none⟩) a5).trans (b3 1 _ rfl);have l2:=(y.cell (p:=⟨a4,os+k*3+2,none⟩) a5).trans (b3 2 _ rfl);have h4:=zh (show cg wr (.agg #[.string b4,.slice d8 d9 e0,.slice e1 e2 e3]) (S k) from⟨_,_,by rw[show(S k).word=b4 from H.1.symm],H.2.1.below y,H.2.2.below y⟩);have h5:=zh (n7.step (Q.trans (W.mono b1.2)));have l3:=No a5 y.size;have o6:=zh y.size;clear H b3 d7 y;rw[NR] at h3;go_wp2_with fail;have e4:=g.fine k b2;rw[show xD (A k) (L k) (B k)=S k by rw[O]] at e4;have e5:=g.lt k b2;rw[show xD (A k) (L k) (B k)=S k by rw[O]] at e5;have b5:=zh (And.intro e4 e5);clear e4 e5;refine(DR (h5.fresh (ak wr (.cells #[.string b4,.slice d8 d9 e0,.slice e1 e2 e3] 138))) (h4.below (ak wr (.cells #[.string b4,.slice d8 d9 e0,.slice e1 e2 e3] 138))) b5.1.1 b5.1.2).mono ?_;rintro x s ⟨rfl,a1⟩;obtain⟨b6,b7⟩:=bl a1;obtain⟨o7,X⟩:=zx wr.heap.size;rw[<-X] at b6⊢;obtain⟨l4,l5,l6⟩:=aW b6;have l7:=aa b6;have Y:=zh b7;have h6:=zh (D.ch k q F (λ_=>False) wr s k8 (Ch.fresh b7) (λ_ _ e=>e) λ_ e=>e.elim);have l8:=zh (h4.below b7);obtain⟨l9,b8⟩:=zx (rK (S k) (L k));obtain⟨m0,b9⟩:=zx (An k);rw[<-b8];obtain⟨m1,h7,m2,a6⟩:=uM (⟨#[62,32]⟩:ByteArray) l9 (m:=2) (n:=1000) zd (by rw[b8];exact b5.2.1) zd;obtain⟨E2,h8,m3,a7⟩:=uM m1 m0 (n:=1000) h7 (by rw[b9];exact b5.2.2) zd;obtain⟨e6,h9,m4,i0⟩:=uM E2 (⟨#[10]⟩:ByteArray) (n:=1) h8 zd zd;have i1:=zh (show e6=Ea S L An k/\e6.size<=2003 from⟨by rw[i0,a7,a6,b8,b9];rfl,h9⟩);have m5:=zh b9;clear b6 b7 X h3 l1 l2 l3 h7 h8 h9 a6 a7 i0 b8 b9;have e7:=D.step k q F s _ b2 h6 (h5.fresh Y) l8;rw[<-m5] at e7;have m6:=zh e7;clear e7;go_wp2_with fail;refine m6.mono ?_;rintro x I ⟨rfl,i2,i3⟩;have m7:=zh i2;have e8:=zh i3;clear i2 i3 l4 l5 l6 l7;have c1:=zh ((r.ch (Ch.fresh (F:=λ_=>False) Y) λ_ _ e=>e).ch e8 λj d o=>d6 j d o);have m8:=xt (S:=S) (L:=L) (An:=An) k λi o8=>by have h:=g.lt i zo;rw[show xD (A i) (L i) (B i)=S i by rw[O]] at h;exact h
   have i4:=xo e6 c1 (by have:=i1.2;have:=g.n;omega) (by have:=c1.1;have:=(c1.lt (k:=l) (by obtain⟨_,p,v,_,_,_,_,h⟩:=c1.out;exact(h l).2 (.inl rfl))).2;omega);have m9:=zh i4;clear m8 i4;go_wp2_with fail;refine m9.mono ?_;rintro x Z ⟨rfl,e9,f0,f1,i5⟩;rw[i1.1] at f0;have f2: ∀j,V j->j<wr.heap.size:=λj d=>(r.lt d).2
   have i6:=D.ch (k+1) q _ V I Z m7 f1 (λj d i7=>by
    rcases d with d|d
    ·exact d6 j i7 d
    ·have:=f2 j i7;have:=Y.size;omega) λj d=>Nq b1.2 (r.lt d).1
   have i8: ∀j,F j->j<s.heap.size:=λj d=>(D.lt k q F s h6 j d).2
   have a0:=zh (show J (k+1) q (λj=>F j\/s.heap.size<=j/\j<I.heap.size) Z/\Eh Z M l (xr S L An (k+1)) e9/\(∀j,e9 j-> ¬(F j\/s.heap.size<=j/\j<I.heap.size))/\(∀j,F j\/s.heap.size<=j/\j<I.heap.size->M<=j)/\Qr M t Z from by
    have n0:M<=wr.heap.size:=by have:=W.size;have:=(r.lt (k:=l) (by obtain⟨_,p,v,_,_,_,_,h⟩:=r.out;exact(h l).2 (.inl rfl)));omega
    have o9:=Y.size;have p0:=e8.size;refine⟨i6,f0,λj d o=>?_,λj d=>?_,?_⟩
    ·rcases i5 j d with h|h
     ·rcases o with o|o
      ·exact d6 j h o
      ·have:=f2 j h;omega
     ·rcases o with o|o
      ·have:=i8 j o;omega
      ·omega
    ·rcases d with d|d
     ·exact h2 j d
     ·omega
    ·have n1:Qr M t s:=W.trans (Y.mono n0)
     have n2:Qr M s I:=e8.below h2 zo;have n3:Qr M I Z:=f1.below (λj d=>(r.lt d).1) zo;exact(n1.trans n2).trans n3)
   clear f0 f1 i5 f2 i6 i8 m2 m3 m4;have p1:N<=100:=g.n.2.1;go_wp2_with fail;go_roundw
   case rel=>exact⟨k+1,zo,by go_num,_,e9,zh a0.1,zh a0.2.1,zh a0.2.2.1,zh a0.2.2.2.1,zh a0.2.2.2.2⟩
   case measure=>simp[intOf];omega
  ·obtain rfl:k=N:=zo
   clear b2;have n4:=zh (show M<=wr.heap.size by have:=(r.lt (k:=l) (by obtain⟨_,p,v,_,_,_,_,h⟩:=r.out;exact(h l).2 (.inl rfl)));omega);go_wp2_with fail;refine(Builder_String_any M l _ wr r.is n4).mono ?_;rintro x n5 ⟨rfl,X⟩;have n6:=zh (show Qr w.heap.size w n5 from Q.trans ((W.trans X).mono b1.2));clear X;go_wp2_with fail;go_ret;exact⟨rfl,n6⟩
instance:DecidableEq aF:=λa b=>decidable_of_iff (a.c=b.c/\a.hi=b.hi/\a.lo=b.lo/\a.mn=b.mn/\a.mx=b.mx) ⟨λh=>by cases a;cases b;simp only at h;obtain⟨rfl,rfl,rfl,rfl,rfl⟩:=h;rfl,λh=>by subst h;exact⟨rfl,rfl,rfl,rfl,rfl⟩⟩
instance:DecidableEq ay:=λa b=>decidable_of_iff (a.name=b.name/\a.start=b.start/\a.agg=b.agg) ⟨λh=>by cases a;cases b;simp only at h;obtain⟨rfl,rfl,rfl⟩:=h;rfl,λh=>by subst h;exact⟨rfl,rfl,rfl⟩⟩
instance(x:Int):Decidable (aQ x):=inferInstanceAs (Decidable (_/\_))
instance(a:aF):Decidable a.ok:=inferInstanceAs (Decidable (_/\_/\_/\_/\_))
instance(r:ay):Decidable r.ok:=inferInstanceAs (Decidable (_/\_/\_))
instance(r:ay):Decidable r.good:=inferInstanceAs (Decidable (_/\_/\_/\_))
instance(o:Option ay):Decidable (rS o):=match o with
 |none=>isTrue λr h=>by cases h
 |some r=>decidable_of_iff r.ok ⟨λh x hx=>by cases hx;exact h,λh=>h r rfl⟩
instance(p:LP):Decidable p.ok:=decidable_of_iff ((0<=p.1.n/\p.1.n<=4096)/\(0<=p.1.low/\p.1.low<=4096)/\p.1.used.length<=4096/\p.2.length<=10/\ ∀x∈p.2,0<=x.2.1/\x.2.1<=4096) ⟨λh=>⟨h.1,h.2.1,h.2.2.1,h.2.2.2.1,h.2.2.2.2⟩,λh=>⟨h.n,h.low,h.used,h.len,h.left⟩⟩
instance(a b c:Int):Decidable (fJ a b c):=inferInstanceAs (Decidable (_/\_/\_/\_/\_/\_))
instance(s:kZ)(y:cx):Decidable (Gf s y):=decidable_of_iff ((0<=s.id/\s.id<=1000000)/\fJ (s.id+1) y.1 y.2.1/\s.p.ok/\1<=s.p.open_/\(dj s.p bA 1).ok/\0<=(dk s.p.2 bA).1/\(1:Int)<=s.p.1.n-s.p.1.used.length/\(cb s.p.1 52).take 1= [eZ s.p]/\(0<=eZ s.p/\eZ s.p<90)/\(oL (s.id+1) y).size=256)
 ⟨λh=>⟨h.1,h.2.1,h.2.2.1,h.2.2.2.1,h.2.2.2.2.1,h.2.2.2.2.2.1,h.2.2.2.2.2.2.1,h.2.2.2.2.2.2.2.1,h.2.2.2.2.2.2.2.2.1,h.2.2.2.2.2.2.2.2.2⟩,λh=>⟨h.id,h.seg,h.h0,h.h1,h.h2,h.h3,h.h4,h.k,h.kb,h.sz⟩⟩
instance(ps:List ((Int×Int)×PP))(s:kZ)(y:cx):Decidable (rZ ps s y):=by
 unfold rZ;exact match bf ps (y.1,y.2.1) with
 |some p=>inferInstanceAs (Decidable (p.2.2.2.2=y.2.2))
 |none=>inferInstanceAs (Decidable (Gf s y))
instance(p:LP)(a:ByteArray)(b:List Int):Decidable (iw p a b):=decidable_of_iff ((0<=p.open_/\p.open_<=4096)/\p.ok/\(gy p).ok/\(rd p a b).ok/\p.open_.toNat<=(cb (gy p).1 p.1.n.toNat).length/\p.open_<=(dk (gy p).2 bA).1/\p.open_<=(gy p).1.n-(gy p).1.used.length/\(fY (dk (mF p).2 bA).2 b).1.length=b.length/\(fY (dk (mF p).2 bA).2 b).1≠ []/\(bf (rd p a b).2 bA).isSome=true/\(dk (td p a b).2 bA).2= []/\(1<=a.size/\a.size<=15)/\b.length<=5000/\(rb p).length<=5000)
 ⟨λ⟨h1,h2,h3,h4,h5,h6,h7,h8,h9,h10,h11,h12,h13,h14⟩=>⟨h1,h2,h3,h4,h5,h6,h7,h8,h9,h10,h11,h12,h13,h14⟩,λ⟨h1,h2,h3,h4,h5,h6,h7,h8,h9,h10,h11,h12,h13,h14⟩=>⟨h1,h2,h3,h4,h5,h6,h7,h8,h9,h10,h11,h12,h13,h14⟩⟩
instance(e:bj)(i:Int):Decidable (e.ok i):=inferInstanceAs (Decidable (_/\_/\_/\_))
instance(l:List ah):Decidable (iU l):=inferInstanceAs (Decidable (∀i,i<l.length->_))
instance(c:bI):Decidable c.plain:=decidable_of_iff ((0<c.gen/\c.gen<=18446744073709551615)/\(0<=c.now/\c.now<=1099511627776)/\cD c.pn c.pl=true/\c.fl.length=c.pl.length/\ ∀f∈c.fl,0<=f/\f<=4611686018427387904) ⟨λh=>⟨h.1,h.2.1,h.2.2.1,h.2.2.2⟩,λh=>⟨h.gen,h.now,h.pol,h.fl⟩⟩
instance(c:bI):Decidable c.quiet:=decidable_of_iff (c.tn=ByteArray.empty/\c.tl.length=0/\c.src= []/\c.bound=0/\c.done=0) ⟨λh=>⟨h.1,NI h.2.1,h.2.2⟩,λh=>⟨h.1,by rw[h.2.1];rfl,h.2.2⟩⟩
instance(c:bI):Decidable c.busy:=decidable_of_iff (cD c.tn c.tl=true/\(c.src.length=c.tl.length/\ ∀s∈c.src,0<=s/\s<c.pl.length)/\(0<=c.bound/\c.bound<=4096)/\(0<=c.done/\c.done<=100)) ⟨λh=>⟨h.1,h.2.1,h.2.2.1,h.2.2.2⟩,λh=>⟨h.pol,h.src,h.bound,h.done⟩⟩
instance(c:bI):Decidable c.ents:=decidable_of_iff (c.es.length<=90/\(∀e∈c.es,e.ok c.id)/\(c.es.map λe=>(e.tier,e.shard)).Nodup/\(c.es.map λe=>e.blk).Nodup) ⟨λh=>⟨h.1,h.2.1,h.2.2.1,h.2.2.2⟩,λh=>⟨h.len,h.ok,h.ps,h.bs⟩⟩
instance(c:bI):Decidable c.valid:=decidable_of_iff (c.plain/\(c.quiet\/c.busy)/\c.ents) ⟨λh=>⟨h.1,h.2.1,h.2.2⟩,λh=>⟨h.plain,h.chg,h.ents⟩⟩
instance(c:bI):Decidable c.short:=decidable_of_iff ((∀k,k<c.pl.length+1->(cQ c.pn (c.pl.take k)).length<=1000)/\ ∀k,k<c.tl.length+1->(cQ c.tn (c.tl.take k)).length<=1000) ⟨λh=>⟨λk hk=>h.1 k zo,λk hk=>h.2 k zo⟩,λh=>⟨λk hk=>h.p k zo,λk hk=>h.o k zo⟩⟩
instance(σ:el):Decidable σ.ok:=decidable_of_iff (cD σ.P.name σ.P.l=true/\σ.P.src.length=σ.P.l.length/\(0<=σ.bound/\σ.bound<=1000000)/\(0<=σ.done/\σ.done<σ.P.steps)) ⟨λh=>⟨h.1,h.2.1,h.2.2.1,h.2.2.2⟩,λh=>⟨h.pol,h.src,h.bound,h.done⟩⟩
section
variable{ps:List ((Int×Int)×PP)}{s s':kZ}{ys:List cx}{y:cx}
def kZ.eqv(s s':kZ):Prop:=s.id=s'.id/\s.p=s'.p/\s.out=s'.out/\s.d=s'.d
def lO(f:s.eqv s')(y:cx):(bY ps s y).eqv (bY ps s' y):=by
 obtain⟨a,c,d,e⟩:=f;unfold bY;split
 ·exact⟨a,c,by show _++_=_++_;rw[d],e⟩
 ·unfold oM
  exact⟨by show s.id+1=s'.id+1;rw[a],by show oH (dj s.p bA 1) bA [eZ s.p]=oH (dj s'.p bA 1) bA [eZ s'.p];rw[c],by show s.out++ [(s.id+1,y.1,y.2.1,eZ s.p,y.2.2)]=s'.out++ [(s'.id+1,y.1,y.2.1,eZ s'.p,y.2.2)];rw[a,c,d],by show s.d.spent.put (eZ s.p) (oL (s.id+1) y)=s'.d.spent.put (eZ s'.p) (oL (s'.id+1) y);rw[a,c,e]⟩
def Hm(a:s.eqv s')(k:Nat):(kf ps s ys k).eqv (kf ps s' ys k):=by
 unfold kf
 generalize ys.take k=zs
 induction zs generalizing s s' with
 |nil=>exact a
 |cons z zs c=>exact c (lO a z)
def rZ.eqv(a:rZ ps s y)(n:s.id=s'.id)(o:s.p=s'.p):rZ ps s' y:=by
 unfold rZ at a⊢;split
 ·rename_i p c
  rw[c] at a;exact a
 ·rename_i c
  rw[c] at a;obtain⟨d,e,f,g,h,i,j,k,l,m⟩:=a;rw[n] at d e m;rw[o] at f g h i j k l;exact⟨d,e,f,g,h,i,j,k,l,m⟩
end
def uQ(out:List PP):List ((Int×Int)×PP):=out.map λq=>((q.2.1,q.2.2.1),q)
def Hn(d:DV)(id:Int)(out:List PP)(st:au)(k:Nat):kZ:=kf (uQ out) ⟨id,hR out,0,d,[]⟩ (cA st) k
def ff(d:DV)(id:Int)(out:List PP)(st:au):kZ:=Hn d id out st (cA st).length
def Eb(gen id:Int)(out:List PP)(st:au):List UInt8:=(gI st (gen+1) (ff (DV.fresh 90) id out st).id (ff (DV.fresh 90) id out st).out).bytes
def il(d:DV)(gen id:Int)(out:List PP)(st:au):DV:=
 (((pB (ff d id out st).d (if (gen+1)%2=1 then 18 else 28) (ii (lH (Eb gen id out st))) (kO (Eb gen id out st))).spent.flushed).sw ⟨gen+1,90,(Eb gen id out st).length⟩).1
structure gA(gen id:Int)(out:List PP)(st:au):Prop where
 pol:cD st.τ.r.name st.τ.r.l=true
 fl:st.τ.r.fl.length<=5
 room:st.room=26
 sh: ∀σ∈st.sh.toList,σ.ok/\iU σ.P.l/\ ∀o∈σ.tabs,rS o
 shd:iU st.τ.r.l
 tk: ∀o∈st.τ.tabs,rS o
 now:aQ st.τ.r.now
 steps: ∀k,k<(cA st).length->(aQ ((cA st).getD k (0,0,⟨ByteArray.empty,0,dP 0⟩)).1/\aQ ((cA st).getD k (0,0,⟨ByteArray.empty,0,dP 0⟩)).2.1)/\((cA st).getD k (0,0,⟨ByteArray.empty,0,dP 0⟩)).2.2.good/\rZ (uQ out) (Hn (DV.fresh 90) id out st k) ((cA st).getD k (0,0,⟨ByteArray.empty,0,dP 0⟩))
 len:(cA st).length<=20
 genb:0<=gen/\gen<=1000
 idb:0<=(ff (DV.fresh 90) id out st).id/\(ff (DV.fresh 90) id out st).id<=1000000
 valid:(gI st (gen+1) (ff (DV.fresh 90) id out st).id (ff (DV.fresh 90) id out st).out).valid
 short:(gI st (gen+1) (ff (DV.fresh 90) id out st).id (ff (DV.fresh 90) id out st).out).short
 bytes:(Eb gen id out st).length<=2560
 take: ∀k,k<(ff (DV.fresh 90) id out st).out.length->iw (hR ((ff (DV.fresh 90) id out st).out.take k)) (fZ ((ff (DV.fresh 90) id out st).out.getD k (0,0,0,0,⟨ByteArray.empty,0,dP 0⟩)).2.1) [((ff (DV.fresh 90) id out st).out.getD k (0,0,0,0,⟨ByteArray.empty,0,dP 0⟩)).2.2.2.1]
instance(gen id:Int)(out:List PP)(st:au):Decidable (gA gen id out st):=decidable_of_iff (_/\_/\_/\_/\_/\_/\_/\_/\_/\_/\_/\_/\_/\_/\_)
 ⟨λ⟨h1,h2,h3,h4,h5,h6,h7,h8,h9,h10,h11,h12,h13,h14,h15⟩=>⟨h1,h2,h3,h4,h5,h6,h7,h8,h9,h10,h11,h12,h13,h14,h15⟩,λ⟨h1,h2,h3,h4,h5,h6,h7,h8,h9,h10,h11,h12,h13,h14,h15⟩=>⟨h1,h2,h3,h4,h5,h6,h7,h8,h9,h10,h11,h12,h13,h14,h15⟩⟩
structure eu(S:aM)(d:DV)(gen id:Int)(out:List PP)(n:Int)(c:Nat):Prop where
 d:S.d=d
 gen:S.gen=gen
 id:S.id=id
 ps:S.ps.map aA.pp=out
 pure:S.V.pure=hR out
 dg:DG S.d n
 c:S.c<=c
section
variable{S S2:aM}{d:DV}{gen id n:Int}{out:List PP}{c:Nat}{st:au}
def eu.psof(a:eu S d gen id out n c):nT S=uQ out:=by rw[<-a.ps];unfold nT uQ;rw[Py];rfl
def eu.at_(a:eu S d gen id out n c)(k:Nat):(dq S st k).eqv (Hn d id out st k):=by
 unfold dq Hn;rw[a.psof];exact Hm (s:=Gh S) (s':=⟨id,hR out,0,d,[]⟩) ⟨a.id,a.pure,rfl,a.d⟩ k
def JM(d':DV)(k:Nat):(Hn d id out st k).id=(Hn d' id out st k).id/\(Hn d id out st k).p=(Hn d' id out st k).p/\(Hn d id out st k).out=(Hn d' id out st k).out:=by
 unfold Hn kf
 have key: ∀(zs:List cx) (s s':kZ),s.id=s'.id->s.p=s'.p->s.out=s'.out->(zs.foldl (bY (uQ out)) s).id=(zs.foldl (bY (uQ out)) s').id/\(zs.foldl (bY (uQ out)) s).p=(zs.foldl (bY (uQ out)) s').p/\(zs.foldl (bY (uQ out)) s).out=(zs.foldl (bY (uQ out)) s').out:=by
  intro zs
  induction zs with
  |nil=>intro s s' a c e;exact⟨a,c,e⟩
  |cons z zs g=>
   intro s s' a c e
   have f: ∀s':kZ,s.id=s'.id->s.p=s'.p->s.out=s'.out->(bY (uQ out) s z).id=(bY (uQ out) s' z).id/\(bY (uQ out) s z).p=(bY (uQ out) s' z).p/\(bY (uQ out) s z).out=(bY (uQ out) s' z).out:=λs' a c e=>by
    have:=lO (ps:=uQ out) (s:=s) (s':={s' with d:=s.d}) ⟨a,c,e,rfl⟩ z;refine⟨this.1.trans ?_,this.2.1.trans ?_,this.2.2.1.trans ?_⟩<;>(unfold bY;split<;>rfl)
   exact g _ _ (f s' a c e).1 (f s' a c e).2.1 (f s' a c e).2.2
 exact key _ _ _ rfl rfl rfl
def eu.end_(f:eu S d gen id out n c):(bm S st).id=(ff (DV.fresh 90) id out st).id/\(bm S st).out=(ff (DV.fresh 90) id out st).out/\(bm S st).d=(ff d id out st).d:=by
 have a:=f.at_ (st:=st) (cA st).length;have e:=JM (d:=d) (id:=id) (out:=out) (st:=st) (DV.fresh 90) (cA st).length;exact⟨a.1.trans e.1,a.2.2.1.trans e.2.2,a.2.2.2⟩
def eu.save(e:eu S d gen id out n c)(a:gA gen id out st)(s:n<=900000000)(t:c<=900000):dZ S st n:=by
 obtain⟨f,g,u⟩:=e.end_ (st:=st);refine⟨⟨a.pol,a.fl,by rw[a.room];decide,λσ i=>(a.sh σ (by rw[Option.mem_def.1 i];exact Nz.2 rfl)).1⟩,⟨a.shd,a.tk,λσ i=>(a.sh σ (by rw[Option.mem_def.1 i];exact Nz.2 rfl)).2⟩,a.now,e.dg,s,λk y m=>?_,a.len,Nq e.c t,by rw[e.gen];have:=a.genb;omega,by rw[f];exact a.idb,by rw[e.gen,f,g];exact a.valid,by rw[e.gen,f,g];exact a.short,by rw[e.gen,f,g];exact a.bytes,λk p j=>?_⟩
 ·have l:=(Ny.1 m).1
  have h:=a.steps k l;rw[Nr,m] at h;refine⟨h.1,h.2.1,?_⟩;rw[e.psof];have o:=e.at_ (st:=st) k;have q:=JM (d:=DV.fresh 90) (id:=id) (out:=out) (st:=st) d k;exact h.2.2.eqv (q.1.trans o.1.symm) (q.2.1.trans o.2.1.symm)
 ·rw[g] at j⊢
  have l:=(Ny.1 j).1;have r:=a.take k l;rw[Nr,j] at r;exact r
end
section
variable{S S0 S2:aM}{d:DV}{gen id n:Int}{out:List PP}{c:Nat}{st:au}{dp B:Nat}
def eu.disk(a:eu S d gen id out n c)(e:gA gen id out st):dz S st=il d gen id out st/\DG (dz S st) (n+40):=by
 obtain⟨h,i,j⟩:=a.end_ (st:=st);have f:cC S st=Eb gen id out st:=by unfold cC Eb;rw[a.gen,h,i]
 have m:=e.len;have o:(cC S st).length<=2560:=by rw[f];exact e.bytes
 have p:kO (cC S st)<=10:=by unfold kO;omega
 have k:DG (bm S st).d (n+(cA st).length):=by
  unfold bm dq;exact pD (s:=Gh S) a.dg _ zl
 have l:DG (er S st) (n+31):=by
  unfold er;exact((k.many _ _).after).mono zo
 have q:=e.genb;have g:=l.sw (s:=⟨S.gen+1,90,(cC S st).length⟩) ⟨(by decide:gZ 90),by show S.gen+1≠0;rw[a.gen];omega,by show(0:Int)<=((cC S st).length:Int);omega,by show((cC S st).length:Int)<=40000;omega⟩ (by show 0<=S.gen+1;rw[a.gen];omega);refine⟨?_,?_⟩
 ·unfold dz er il
  rw[f,j,a.gen]
 ·unfold dz
  rw[g.1];exact g.2.mono zo
def eu.saved(a:eu S d gen id out n c)(k:gA gen id out st)(o:oT S st S2):eu S2 (il d gen id out st) (gen+1) (ff (DV.fresh 90) id out st).id (ff (DV.fresh 90) id out st).out (n+40) (c+31)/\(∃t,S2.lg=some (t,LV.new 2 16 (gen+1)))/\S2.bad=S.bad/\S2.dp=S.dp:=by
 obtain⟨L,V,m,l,t,c',rfl,f,g,p⟩:=o;obtain⟨h,e,q⟩:=a.end_ (st:=st);obtain⟨i,j⟩:=a.disk k;exact⟨⟨i,by show S.gen+1=_;rw[a.gen],h,f.trans e,by rw[<-e];exact g,j,by show c'<=_;have:=a.c;omega⟩,⟨t,by show some (t,LV.new 2 16 (S.gen+1))=_;rw[a.gen]⟩,rfl,rfl⟩
def rN(a:S0.dp=dp/\S0.B=B/\S0.c<=0+18/\S0.d=pi (DV.fresh 90)/\S0.gen=0/\S0.id=0/\S0.ps= []/\S0.V.pure=dm []):eu S0 (pi (DV.fresh 90)) 0 0 [] 19 18:=by
 have d:=oh (c:=0) a;obtain⟨k,l,e,f,g,h,i,j⟩:=a;exact⟨f,g,h,by rw[i];rfl,by rw[j];rfl,d.dg,e⟩
def KW.kept(j:KW dp B 0 (DV.fresh 90) st S)(k:gA 0 0 [] st):eu S (il (pi (DV.fresh 90)) 0 0 [] st) 1 (ff (DV.fresh 90) 0 [] st).id (ff (DV.fresh 90) 0 [] st).out 59 49/\(∃t,S.lg=some (t,LV.new 2 16 1))/\S.bad=0:=by
 obtain⟨S0,d,L,V,m,l,t,c',rfl,e,f,n⟩:=j;have a:=rN d;obtain⟨g,c,o⟩:=a.end_ (st:=st);obtain⟨h,i⟩:=a.disk k;exact⟨⟨h,rfl,g,e.trans c,by rw[<-c];exact f,i,by show c'<=_;omega⟩,⟨t,rfl⟩,rfl⟩
end
def xu:ba:=⟨⟨#[99,112,117]⟩,0,5⟩
def Ho:au:=ik xc xd
def sa:au:=tq Ho xu
def wP:PV:=bh sa.τ.r xc xd
def wR(i:Nat):Option ay:=(wP.tab sa.τ i)
def Ec(i:Int)(tabs:List (Option ay)):au:={sa with sh:=some ⟨wP,cw sa.τ wP,i,tabs⟩}
def JN:au:=Ec 0 [none,none]
def LN:au:=Ec 1 [none,none]
def LO:au:=Ec 2 [wR 0,none]
def LQ:au:=Ec 3 [wR 0,wR 1]
def LR:au:=Ec 4 [wR 0,wR 1]
def HI:au:=⟨26,wP.built sa.τ,none⟩
def ol:PP:=(1,0,1,38,⟨⟨#[99,112,117]⟩,0,dP 5⟩)
def om:PP:=(2,1,0,39,⟨⟨#[99,112,117]⟩,0,dP 5⟩)
def Jr:PP:=(3,5,1,40,⟨⟨#[99,112,117]⟩,0,dP 5⟩)
def KZ:PP:=(4,6,0,41,⟨⟨#[99,112,117]⟩,0,dP 5⟩)
def LS:gA 0 0 [] Ho:=Ns zk
def MH:gA 1 0 [] JN:=Ns zk
def MI:gA 2 2 [ol,om] LN:=Ns zk
def MJ:gA 3 2 [ol,om] LO:=Ns zk
def MK:gA 4 3 [ol,om,Jr] LQ:=Ns zk
def ML:gA 5 4 [ol,om,Jr,KZ] LR:=Ns zk
def MM:gA 6 4 [ol,om,Jr,KZ] HI:=Ns zk
def MN:gA 7 4 [ol,om] HI:=Ns zk
def MO:DV:=il (pi (DV.fresh 90)) 0 0 [] Ho
def Mo:DV:=(uy (LV.new 2 16 1) MO (uW 1 0 [xu])).spent.flushed
def MP:DV:=il Mo 1 0 [] JN
def MY:DV:=il MP 2 2 [ol,om] LN
def MZ:DV:=il MY 3 2 [ol,om] LO
def Na:DV:=il MZ 4 3 [ol,om,Jr] LQ
def Nb:DV:=il Na 5 4 [ol,om,Jr,KZ] LR
def Mp:DV:=il Nb 6 4 [ol,om,Jr,KZ] HI
def xv:DV:=(Mp.cut []).restore
def wC:bI:=gI HI 7 4 [ol,om]
def ej:ay:=⟨⟨#[99,112,117]⟩,0,dP 5⟩
def La(_:Int):ay:=ej
def JO:au:=⟨26,⟨nX wC,[some ej,some ej]⟩,none⟩
def MQ:gA 7 4 [ol,om] JO:=Ns zk
def tG{L:List aA}(e:L.map aA.key4=wC.es.map bj.key)(f: ∀p∈L,p.r=La p.blk): ∃a b c d,L= [⟨1,0,1,38,ej,a,b⟩,⟨2,1,0,39,ej,c,d⟩]:=by
 have i:wC.es.map bj.key= [(1,0,1,38),(2,1,0,39)]:=zk;rw[i] at e
 match L,e,f with
 | [p,q],e,f=>
  obtain⟨n,o,r,s,t,j,k⟩:=p;obtain⟨u,v,w,x,y,l,m⟩:=q;simp only[Oq,List.map_nil,aA.key4,Pp,Pb,and_true] at e;obtain⟨⟨rfl,rfl,rfl,rfl⟩,rfl,rfl,rfl,rfl⟩:=e;have g:=f _ (OR);have h:=f _ (Oj _ OR);dsimp only at g h;subst g h;exact⟨j,k,l,m,rfl⟩
 | [],e,f=>simp at e
 | [_],e,f=>simp at e
 |_::_::_::_,e,f=>simp at e
def JP{L:List aA}(e:L.map aA.key4=wC.es.map bj.key)(f: ∀p∈L,p.r=La p.blk):ob wC L=JO/\L.map aA.pp= [ol,om]/\dm L=hR [ol,om]:=by
 obtain⟨a,b,c,d,rfl⟩:=tG e f;exact⟨rfl,rfl,rfl⟩
def Bz:xv.on=true/\xv.blocks=90/\xv.keep= []:=⟨zk,zk,zk⟩
def KQ:((List.range 90).all λk:Nat=>decide ((xv.read k).1.size=256\/(xv.read k).1.size=0/\(xv.read k).2≠0))=true:=zk
def BA(k:Int):(xv.read k).1.size=256\/(xv.read k).1.size=0/\(xv.read k).2≠0:=by
 by_cases c:k<0\/90<=k
 ·right
  unfold DV.read;rw[Bz.1,Bz.2.1,NB zd,NH c];exact⟨rfl,by show(15:Int)≠0;decide⟩
 ·have a:=Ob.1 KQ k.toNat (OT.2 zo)
  rw[(zo:((k.toNat:Nat):Int)=k)] at a;exact Ns a
def KR:Ef xv 2 16 7= []/\jN xv 2 16=0:=by
 have a:jN xv 2 16=0:=zk;refine⟨?_,a⟩;unfold Ef;rw[a,NB zd];exact sA (out:= []) zk
def uR:ej.ok/\ej.name.size<=1000000:=Ns zk
def LT(a b c d:Qn):rB wC ([⟨1,0,1,38,ej,a,b⟩,⟨2,1,0,39,ej,c,d⟩]:List aA) 0 ⟨1,0,1,38,ej,a,b⟩:=by
 have f:0<wC.pl.length:=Ns zk;have g:(fb wC.pl.length (([⟨1,0,1,38,ej,a,b⟩,⟨2,1,0,39,ej,c,d⟩]:List aA).take 0)).getD 0 none=none:=zk;have e:(1:Int)<(wC.pl.getD 0 ah.zero).shards/\(wC.pl.getD 0 ah.zero).shards<=8:=Ns zk;have h:cV ej.name (wC.pl.getD 0 ah.zero).shards=1:=zk;have i:cI (wC.pl.getD 0 ah.zero).every ej=true:=zk;have j:(nX wC).from ((0:Nat):Int)<=ej.start:=Ns zk;exact⟨0,rfl,f,g,⟨(by decide:(0:Int)<=1),e.1,e.2⟩,h,⟨uR.1,i,j⟩,uR.2⟩
def LU(a b c d:Qn):rB wC ([⟨1,0,1,38,ej,a,b⟩,⟨2,1,0,39,ej,c,d⟩]:List aA) 1 ⟨2,1,0,39,ej,c,d⟩:=by
 have f:1<wC.pl.length:=Ns zk;have g:(fb wC.pl.length (([⟨1,0,1,38,ej,a,b⟩,⟨2,1,0,39,ej,c,d⟩]:List aA).take 1)).getD 1 none=none:=zk;have e:(0:Int)<(wC.pl.getD 1 ah.zero).shards/\(wC.pl.getD 1 ah.zero).shards<=8:=Ns zk;have h:cV ej.name (wC.pl.getD 1 ah.zero).shards=0:=zk;have i:cI (wC.pl.getD 1 ah.zero).every ej=true:=zk;have j:(nX wC).from ((1:Nat):Int)<=ej.start:=Ns zk;exact⟨1,rfl,f,g,⟨(by decide:(0:Int)<=0),e.1,e.2⟩,h,⟨uR.1,i,j⟩,uR.2⟩
def Js(a b c d:Qn):cz (fb wC.pl.length ([⟨1,0,1,38,ej,a,b⟩,⟨2,1,0,39,ej,c,d⟩]:List aA)) wC.pl.length<=26/\(([⟨1,0,1,38,ej,a,b⟩,⟨2,1,0,39,ej,c,d⟩]:List aA).map aA.key).Nodup/\iw (dm (([⟨1,0,1,38,ej,a,b⟩,⟨2,1,0,39,ej,c,d⟩]:List aA).take 0)) (fZ 0) [38]/\iw (dm (([⟨1,0,1,38,ej,a,b⟩,⟨2,1,0,39,ej,c,d⟩]:List aA).take 1)) (fZ 1) [39]:=⟨Ns zk,Ns zk,Ns zk,Ns zk⟩
def Hp{x y:aA}{k:Nat}{p:aA}(a: [x,y][k]?=some p):k=0/\p=x\/k=1/\p=y:=by
 match k,a with
 |0,a=>injection a with a;exact .inl ⟨rfl,a.symm⟩
 |1,a=>injection a with a;exact .inr ⟨rfl,a.symm⟩
 |k+2,a=>simp at a
def Hq: ∀L:List aA,L.map aA.key4=wC.es.map bj.key->(∀p∈L,p.r=La p.blk)->(∀k p,L[k]?=some p->rB wC L k p)/\cz (fb wC.pl.length L) wC.pl.length<=26/\(L.map aA.key).Nodup/\ ∀k p,L[k]?=some p->iw (dm (L.take k)) (fZ p.tier) [p.blk]:=by
 intro L f g;obtain⟨a,b,c,d,rfl⟩:=tG f g;obtain⟨n1,n2,h,i⟩:=Js a b c d;refine⟨λk p e=>?_,n1,n2,λk p e=>?_⟩
 ·rcases Hp e with⟨rfl,rfl⟩|⟨rfl,rfl⟩
  ·exact LT a b c d
  ·exact LU a b c d
 ·rcases Hp e with⟨rfl,rfl⟩|⟨rfl,rfl⟩
  ·exact h
  ·exact i
instance(l:List ah)(fl:List Int):Decidable (iM l fl):=inferInstanceAs (Decidable (_/\ ∀k,k<fl.length->_))
instance(x:bj):Decidable x.fit:=inferInstanceAs (Decidable (_/\_/\_/\_))
def Jt:uB xv wC La:=
 ⟨zk,Bz.2.1,Bz.2.2,λk c=>(BA k).resolve_right λa=>a.2 c,λk=>(BA k).elim (λa=>zo) λa=>zo,Ns zk,Ns zk,Ns zk,Ns zk,Ns zk,
  by rw[(zk:dE wC.pn wC.pl=pj)];exact Jo.parsed,Ns zk,Ns zk,⟨zk,zk⟩,Ns zk,
  List.forall_mem_cons.2 ⟨⟨Ns zk,Ns zk,Ns zk,zk⟩,List.forall_mem_cons.2 ⟨⟨Ns zk,Ns zk,Ns zk,zk⟩,λx d=>by cases d⟩⟩,
  Ns zk,Hq,KR⟩
def KS{n:Int}(r:DG Mp n)(s:n<=900000)(a:Nat)(t:a<=900000):Hc xv a wC La n:=
 ⟨Jt,λS L f e g h i j k l=>by
  obtain⟨m,o,p⟩:=JP k l;rw[m];have q:DG xv n:=(xf r).2;exact eu.save (S:=S) (d:=xv) (gen:=7) (id:=4) (out:= [ol,om]) (c:=a) ⟨e,g,h,by rw[i];exact o,by rw[j];exact p,by rw[e];exact q,f⟩ MQ zo zo⟩
def WJ(B q:Nat)(F:Nat->Prop)(w:Qm)(σ:au)(K:aM->Prop):Prop:= ∃S b,bB w q [.pointer (some ⟨S.dp,0,none⟩)] 195 S b σ/\(∀j,EF w q S b j->F j)/\(∀j,F j->B<=j/\j<w.heap.size)/\K S
def WQ(w:Qm)(q:Nat)(S:aM)(b:SB)(σ':au)(K':aM->Prop)(w':Qm):Prop:= ∃S' b',bZ w q [.pointer (some ⟨S.dp,0,none⟩)] 195 S b w' S' b' σ'/\S'.dp=S.dp/\K' S'
section
variable{w w':Qm}{B q:Nat}{m:Int}{F G:Nat->Prop}{σ σ':au}{K K':aM->Prop}{S S':aM}{b b':SB}{v:Qn}{ans:ByteArray}
def bB.ch2{r:List Qn}{T:Qp}(c:bB w q r T S b σ)(e:Ch G w w')(f: ∀k,EF w q S b k-> ¬G k): ∀k,EF w' q S b k->EF w q S b k:=λk a=>by
 have d:=(c.sto.disk.ch_ c.sto.keep e λk a=>f k (.inl (.inr a))).2;exact a.imp (λa=>a.imp id (d k).1) id
def WJ.ch(l:WJ B q F w σ K)(e:Ch G w w')(h: ∀j,F j-> ¬G j):WJ B q F w' σ K:=by
 obtain⟨S,b,f,c,g,i⟩:=l;exact⟨S,b,f.ch_ e λk d=>h k (c k d),λj a=>c j (f.ch2 e (λk d=>h k (c k d)) j a),λj a=>⟨(g j a).1,No (g j a).2 e.size⟩,i⟩
def xw(c:cl B w)(g: ∀j,EF w q S b j->B<=j):KY B (WQ w q S b σ' K'):=
 ⟨λw' h ⟨S',b',a,d,e⟩ f=>⟨S',b',a.fresh f,d,e⟩,λw' ⟨S',b',a,_,_⟩=>c.step (a.ch.below g c.1)⟩
def mP(n:bB w q [.pointer (some ⟨S.dp,0,none⟩)] 195 S b σ)(e: ∀j,EF w q S b j->F j)(f: ∀j,F j->B<=j/\j<w.heap.size)(o:B<=w.heap.size)
 (m:Qo zP 57 #[q,v] w (λx w'=>x= .returned (.string ans)/\WQ w q S b σ' K' w')):
 Qo zP 57 #[q,v] w (λx w'=>x= .returned (.string ans)/\WJ B q (λj=>F j\/w.heap.size<=j/\j<w'.heap.size) w' σ' K'/\Ch F w w'):=by
 refine m.mono ?_;rintro x w' ⟨rfl,S',b',c,g,h⟩;have i:=c.ch.size;refine⟨rfl,⟨S',b',by rw[g];exact c.at_,λj a=>?_,λj a=>?_,h⟩,c.ch.mono λk _ l=>e k l⟩
 ·rcases c.own j a with d|d
  ·exact .inl (e j d)
  ·exact .inr ⟨d,c.at_.lt a⟩
 ·rcases a with a|a
  ·exact⟨(f j a).1,No (f j a).2 i⟩
  ·exact⟨zo,a.2⟩
instance(x:ba):Decidable x.good:=inferInstanceAs (Decidable (_/\_/\_))
def JQ:gb [0]:=⟨Ns zk,Ns zk⟩
def LW(p:cl B w)(I:cg w v Bn)(W:WJ B q F w Ho (λS=>eu S MO 1 0 [] 59 49/\(∃t,S.lg=some (t,LV.new 2 16 1))/\S.bad=0)):
 Qo zP 57 #[q,v] w (λx w'=>x= .returned (.string (dN [0]))/\WJ B q (λj=>F j\/w.heap.size<=j/\j<w'.heap.size) w' sa (λS=>eu S Mo 1 0 [] 100 63/\S.bad=0)/\Ch F w w'):=by
 obtain⟨S,b,i,r,s,f,⟨t,J⟩,K⟩:=W;have A: ∀j,EF w q S b j->B<=j:=λj h=>(s j (r j h)).1
 have L:=aa i.sto.blk;have M:w.cell? ⟨q,16,none⟩=some (.pointer (some ⟨S.dp,0,none⟩)):=by rw[NA w q _ _ _ _ i.sto.blk];rfl
 refine mP i r s p.1 (DU I Bo rfl M L (xw p A) λX l=>?_);have C:xu.good:=Ns zk;have m:ki Ho:=lM Jo.pol;have n:kg (LV.new 2 16 1) (uW 1 0 [xu]):=uO (g:=0) (u:=0) (rM _ _ _ (λy N=>by rw[Nz.1 N];exact C) zm) ⟨rfl,rfl,rfl,⟨Ov 0,(by decide:(0:Int)<=1)⟩,⟨Ov 0,(by decide:(0:Int)<=1)⟩,⟨(by decide:(0:Int)<=1),(by decide:(1:Int)<=1000)⟩⟩;obtain⟨S1,a⟩:=zx ({S with c:=S.c+14,d:=uy (LV.new 2 16 1) S.d (uW 1 0 [xu]),lg:=some (t,rr (LV.new 2 16 1) (uW 1 0 [xu]))}:aM);obtain⟨S2,e⟩:=zx ({S1 with c:=S1.c,d:=S1.d.spent.flushed,lg:=some (t,rr (LV.new 2 16 1) (uW 1 0 [xu]))}:aM);have D:=kh f.dg n;have Y:=f.c;refine(GZ (k:=0) (S2:=S2) (σ1:=sa) (p.fresh l) (i.below l) (λj h=>A j (i.ef_below l h)) (I.below l) ⟨Ns zk,Ns zk,Ns zk⟩ JQ.2 (λZ va vc E O P=>nW (S1:=S1) E.at_ (λQ H o=>?_) (λ_ Q a0 o=>?_) (λR=>absurd rfl R))).mono ?_
 ·rw[a]
  exact wI o m.ok rfl zv (λj h=>by have:=(m.pol.at h).2.2;unfold aQ;omega) m.tabs _ xu (O.below H) (λj h T=>P j h (E.at_.ef_below H T)) ⟨Ns zk,Ns zk,Ns zk⟩ zk C zv J n f.dg zd zo
 ·rw[e]
  exact lI o (by rw[a]) (by show(rr _ _).bad=0;exact n.bad) (by rw[a];exact D.2) zd (by rw[a];show S.c+14<=_;omega)
 ·rintro x w' ⟨rfl,U,V⟩
  refine⟨rfl,S2,U,(bZ.refl i l).trans V,by rw[e,a],⟨by rw[e,a];show(uy _ S.d _).spent.flushed=_;rw[f.d];rfl,by rw[e,a];exact f.gen,by rw[e,a];exact f.id,by rw[e,a];exact f.ps,by rw[e,a];exact f.pure,?_,by rw[e,a];show S.c+14<=63;omega⟩,by rw[e,a];exact K⟩;rw[e,a];exact(D.2.after).mono zd
instance(P:PV)(r:RV):Decidable (P.fit r):=inferInstanceAs (Decidable (_/\_/\ ∀i,i<P.l.length->_))
instance(P:PV)(τ:dJ):Decidable (P.can τ):=decidable_of_iff (P.fit τ.r/\iM P.l (cr P τ.r P.l.length)/\(0<=τ.r.now/\τ.r.now<=1099511627776)/\(∀k,k<τ.r.l.length->1<=(τ.r.l.getD k ah.zero).every/\(τ.r.l.getD k ah.zero).every<=1000000)/\(∀k,k<P.l.length->1<=(P.l.getD k ah.zero).every/\(P.l.getD k ah.zero).every<=1000000)/\(∀i,i<P.l.length-> ∀x∈(τ.tabs.getD (P.src.getD i 0).toNat none).toList,cI (P.l.getD i ah.zero).every (x.rolled (P.l.getD i ah.zero).every)=true)/\(τ.r.l.length<=5/\1<=τ.r.l.length))
 ⟨λ⟨h1,h2,h3,h4,h5,h6,h7⟩=>⟨h1,h2,h3,h4,h5,λi hi x hx=>h6 i hi x (by rw[Option.mem_def.1 hx];exact Nz.2 rfl),h7⟩,λh=>⟨h.fit,h.fl,h.now,h.es,h.pe,λi hi x hx=>h.recs i hi x (by cases ho:τ.tabs.getD (P.src.getD i 0).toNat none with
  |none=>rw[ho] at hx;cases hx
  |some y=>rw[ho] at hx;rw[Nz.1 hx];rfl),h.five⟩⟩
def uS:wP.can sa.τ:=Ns zk
def JR:cD xc xd=true:=zk
def JS:gb [0,0]:=⟨Ns zk,Ns zk⟩
def xx{d:DV}{gen id n:Int}{out:List PP}{c:Nat}{x:Qn}{e:Qq}(y:bB w q [.pointer (some ⟨S.dp,0,none⟩)] 195 S b σ)(o:eu S d gen id out n c)(p:S.bad=0)(r:gA gen id out σ')(s:pE w q [.pointer (some ⟨S.dp,0,none⟩)] 195 S b σ' x e w'):
 e= .returned x/\WQ w q S b σ' (λS=>eu S (il d gen id out σ') (gen+1) (ff (DV.fresh 90) id out σ').id (ff (DV.fresh 90) id out σ').out (n+40) (c+31)/\S.bad=0) w':=by
 obtain⟨rfl,b',L,V,m,l,t,c',u,a,f,g,h⟩:=s;obtain⟨i,v,j,k⟩:=o.saved r (S2:={S with gen:=S.gen+1,id:=(bm S σ').id,ps:=L,pm:=m,bk:=l,V:=V,c:=c',d:=dz S σ',lg:=some (t,LV.new 2 16 (S.gen+1))}) ⟨L,V,m,l,t,c',rfl,f,g,h⟩;exact⟨rfl,_,b',a,k,i,j.trans p⟩
def Hr(f:cl B w)(T:w.cell? ⟨0,0,none⟩=some (.int .i64 m))(A:0<B)(U:cg w v Bp)(h:WJ B q F w sa (λS=>eu S Mo 1 0 [] 100 63/\S.bad=0)):
 Qo zP 57 #[q,v] w (λx w'=>x= .returned (.string (dN [0,0]))/\WJ B q (λj=>F j\/w.heap.size<=j/\j<w'.heap.size) w' JN (λS=>eu S MP 2 2 [ol,om] 140 94/\S.bad=0)/\Ch F w w'):=by
 obtain⟨S,b,c,i,k,l,o⟩:=h;have r: ∀j,EF w q S b j->B<=j:=λj g=>(k j (i j g)).1
 have C:=aa c.sto.blk;have D:w.cell? ⟨q,16,none⟩=some (.pointer (some ⟨S.dp,0,none⟩)):=by rw[NA w q _ _ _ _ c.sto.blk];rfl
 have s: ∀d,Qr w.heap.size w d->d.cell? ⟨0,0,none⟩=some (.int .i64 m):=λd E=>(E.cell (p:=⟨0,0,none⟩) (No A f.1)).trans T
 refine mP c i k f.1 (uN (e:=0) (at_:=0) U uH rfl rfl D C (xw f r) JS (λd a=>rH (s d a)) λd a=>?_);have t:({sa with sh:=some (el.empty (bh sa.τ.r xc xd) (cw sa.τ (bh sa.τ.r xc xd)) 0)}:au)=JN:=zk;have u:=MH;have H:sa.ok:=⟨zk,Ns zk,Ns zk,λσ I=>by cases I⟩;have J:=(l.save u zd zd);have:=oN (n:=100) (f.fresh a) (c.below a) (λj g=>r j (c.ef_below a g)) pj xc xd m Jo.parsed JR (by have h:pj.size<=1000000:=Ns zk;exact h) (s d a) A H rfl uS zv (by rw[t];exact J) o rfl;rw[t] at this;refine this.mono ?_;rintro x w' K;obtain⟨L,S2,M,N,O,y,P⟩:=xx (c.below a) l o u K
 exact⟨L,S2,M,(bZ.refl c a).trans N,O,by
  have Q:(ff (DV.fresh 90) 0 [] JN).id=2:=zk;have R:(ff (DV.fresh 90) 0 [] JN).out= [ol,om]:=zk;rw[Q,R] at y;exact y,P⟩
def rO{d:DV}{gen id n t:Int}{out u:List PP}{c:Nat}{x y z:Int}(i:cl B w)(M:cg w v jy)(N:WJ B q F w σ (λS=>eu S d gen id out n c/\S.bad=0))(k:gA gen id out σ')(Q:n<=900000)(R:c<=900000)(O:gb [0,x,y,z])(A:(ff (DV.fresh 90) id out σ').id=t/\(ff (DV.fresh 90) id out σ').out=u)
 (P: ∀(b:SB) (g:Qm),bJ g b σ->Qo zP 77 #[b.s] g (fy g b σ' (.tuple #[.agg #[x,y,z],()]))):
 Qo zP 57 #[q,v] w (λe w'=>e= .returned (.string (dN [0,x,y,z]))/\WJ B q (λj=>F j\/w.heap.size<=j/\j<w'.heap.size) w' σ' (λS=>eu S (il d gen id out σ') (gen+1) t u (n+40) (c+31)/\S.bad=0)/\Ch F w w'):=by
 obtain⟨S,b,a,l,m,o,p⟩:=N;have r: ∀j,EF w q S b j->B<=j:=λj h=>(m j (l j h)).1
 have C:=aa a.sto.blk;have D:w.cell? ⟨q,16,none⟩=some (.pointer (some ⟨S.dp,0,none⟩)):=by rw[NA w q _ _ _ _ a.sto.blk];rfl
 refine mP a l m i.1 (Aj M jr rfl D C (xw i r) O λg f=>?_);refine(tp (n:=n) (i.fresh f) (a.below f) (λj h=>r j (a.ef_below f h)) (P b) (o.save k zo zo) p k.room).mono ?_;rintro e w' E;obtain⟨H,S2,I,J,K,s,L⟩:=xx (a.below f) o p k E;exact⟨H,S2,I,(bZ.refl a f).trans J,K,by rw[A.1,A.2] at s;exact s,L⟩
end
def Hs(i:Int)(tabs:List (Option ay)):el:=⟨wP,cw sa.τ wP,i,tabs⟩
def uT{i:Nat}{k a:Int}{tabs d:List (Option ay)}(j:(Hs a tabs).ok)(l:wP.at a=⟨1,i,k⟩)(m:i<wP.l.length)(n:tabs.getD i none=none)(o:aQ k)(p:tabs.set i (fK (wP.tab sa.τ i) (kV (wP.tab sa.τ i) (wP.l.getD i ah.zero).shards k)).head?=d):
 ∀(b:SB) (c:Qm),bJ c b (Ec a tabs)->Qo zP 77 #[b.s] c (fy c b (Ec (a+1) d) (.tuple #[.agg #[(1:Int),(i:Int),k],()])):=by
 intro b c f;refine mA (S:=Ec a tabs) (σ':=Hs (a+1) d) f rfl λw' e=>?_
 obtain⟨q,r,s,ps,g⟩:=e.tr;obtain⟨t,sv,u,v,h⟩:=e.sh _ rfl;have:=sS h j g uS i k l m n o;rw[<-p];exact this
def Ht{a:Int}{tabs:List (Option ay)}(h:(Hs a tabs).ok)(i:wP.at a=⟨2,0,0⟩)(j:tabs=(wP.built sa.τ).tabs):
 ∀(b:SB) (c:Qm),bJ c b (Ec a tabs)->Qo zP 77 #[b.s] c (fy c b (Ec (a+1) tabs) (.tuple #[.agg #[(2:Int),(),()],()])):=by
 intro b c e;refine mA (S:=Ec a tabs) (σ':=Hs (a+1) tabs) e rfl λw' d=>?_
 obtain⟨k,l,m,ps,f⟩:=d.tr;obtain⟨n,sv,o,p,g⟩:=d.sh _ rfl;exact qR g h f uS i j
def KT{a:Int}{tabs:List (Option ay)}(h:(Hs a tabs).ok)(i:wP.at a=⟨3,0,0⟩)(j:tabs=(wP.built sa.τ).tabs):
 ∀(b:SB) (c:Qm),bJ c b (Ec a tabs)->Qo zP 77 #[b.s] c (fy c b HI (.tuple #[.agg #[(3:Int),(),()],()])):=by
 intro b c e;refine sU (S:=Ec a tabs) (σ':=Hs (a+1) tabs) (τ':=wP.built sa.τ) e rfl λw' d=>?_
 obtain⟨k,l,m,ps,f⟩:=d.tr;obtain⟨n,sv,o,p,g⟩:=d.sh _ rfl;exact wa g h f uS i j
def LX:(Hs 0 [none,none]).ok:=Ns zk
def LY:(Hs 1 [none,none]).ok:=Ns zk
def LZ:(Hs 2 [wR 0,none]).ok:=Ns zk
def Ma:(Hs 3 [wR 0,wR 1]).ok:=Ns zk
def Mb:(Hs 4 [wR 0,wR 1]).ok:=Ns zk
def MR: ∀(b:SB) (a:Qm),bJ a b JN->Qo zP 77 #[b.s] a (fy a b LN (.tuple #[.agg #[(1:Int),(),()],()])):=uT (i:=0) LX zk zv rfl zv zk
def MS: ∀(b:SB) (a:Qm),bJ a b LN->Qo zP 77 #[b.s] a (fy a b LO (.tuple #[.agg #[(1:Int),(),(1:Int)],()])):=uT (i:=0) LY zk zv rfl zv zk
def MT: ∀(b:SB) (a:Qm),bJ a b LO->Qo zP 77 #[b.s] a (fy a b LQ (.tuple #[.agg #[(1:Int),(1:Int),()],()])):=uT (i:=1) LZ zk zv rfl zv zk
def MU: ∀(b:SB) (a:Qm),bJ a b LQ->Qo zP 77 #[b.s] a (fy a b LR (.tuple #[.agg #[(2:Int),(),()],()])):=Ht Ma zk zk
def MV: ∀(b:SB) (a:Qm),bJ a b LR->Qo zP 77 #[b.s] a (fy a b HI (.tuple #[.agg #[(3:Int),(),()],()])):=KT Mb zk zk
def Hu{ps:List ((Int×Int)×PP)}: ∀(zs:List cx) (s s':kZ),s.id=s'.id->s.p=s'.p->s.out=s'.out->(zs.foldl (bY ps) s).id=(zs.foldl (bY ps) s').id/\(zs.foldl (bY ps) s).p=(zs.foldl (bY ps) s').p/\(zs.foldl (bY ps) s).out=(zs.foldl (bY ps) s').out:=by
 intro zs
 induction zs with
 |nil=>intro s s' a c e;exact⟨a,c,e⟩
 |cons z zs g=>
  intro s s' a c e
  have f:(bY ps s z).id=(bY ps s' z).id/\(bY ps s z).p=(bY ps s' z).p/\(bY ps s z).out=(bY ps s' z).out:=by
   have:=lO (ps:=ps) (s:=s) (s':={s' with d:=s.d}) ⟨a,c,e,rfl⟩ z;refine⟨this.1.trans ?_,this.2.1.trans ?_,this.2.2.1.trans ?_⟩<;>(unfold bY;split<;>rfl)
  exact g _ _ f.1 f.2.1 f.2.2
def dZ.off{S:aM}{st:au}{n:Int}(a:dZ S st n){d':DV}(h:rY d')(i: ∀(k:Nat) (y:cx),(cA st)[k]?=some y->bf (nT S) (y.1,y.2.1)≠none):ij {S with d:=d'} st n:=by
 have c: ∀k,(dq {S with d:=d'} st k).id=(dq S st k).id/\(dq {S with d:=d'} st k).p=(dq S st k).p/\(dq {S with d:=d'} st k).out=(dq S st k).out:=λk=>Hu _ _ _ rfl rfl rfl
 have e:(bm {S with d:=d'} st).id=(bm S st).id:=(c _).1;have f:(bm {S with d:=d'} st).out=(bm S st).out:=(c _).2.2;exact⟨a.ok,a.full,a.now,.inr ⟨h,i⟩,a.n,λk y g=>⟨(a.steps k y g).1,(a.steps k y g).2.1,(a.steps k y g).2.2.eqv (c k).1.symm (c k).2.1.symm⟩,a.len,a.c,a.gen,by rw[e];exact a.id,by rw[e,f];exact a.valid,by rw[e,f];exact a.short,by rw[e,f];exact a.bytes,by rw[f];exact a.take⟩
def Mc: ∀(k:Nat) (y:cx),(cA HI)[k]?=some y->bf (uQ [ol,om]) (y.1,y.2.1)≠none:=by
 have a:((cA HI).all λy=>(bf (uQ [ol,om]) (y.1,y.2.1)).isSome)=true:=zk;intro k y c e;have:=Ob.1 a y (NO c);rw[e] at this;cases this
section
variable{w w':Qm}{B q:Nat}{m:Int}{F:Nat->Prop}{v:Qn}
def Md(f:cl B w)(O:w.cell? ⟨0,0,none⟩=some (.int .i64 m))(r:0<B)(P:cg w v Bq)(Q:WJ B q F w HI (λS=>eu S Mp 7 4 [ol,om] 340 249/\S.bad=0)):
 Qo zP 57 #[q,v] w (λx w'=>x= .returned (.string (dN [0]))/\WJ B q (λj=>F j\/w.heap.size<=j/\j<w'.heap.size) w' JO (λ_=>True)/\Ch F w w'):=by
 obtain⟨S,b,a,i,k,c,s⟩:=Q;have l: ∀j,EF w q S b j->B<=j:=λj g=>(k j (i j g)).1
 have t:=aa a.sto.blk;have y:w.cell? ⟨q,16,none⟩=some (.pointer (some ⟨S.dp,0,none⟩)):=by rw[NA w q _ _ _ _ a.sto.blk];rfl
 have R:=c.c;refine mP a i k f.1 (DX P Br rfl rfl y t (xw f l) JQ λT u d A=>?_);have C:(S.d.cut []).restore=xv:=by rw[c.d];rfl
 have h:=c.dg;have D:Hc (S.d.cut []).restore (S.c+31) wC La 340:=by rw[C];exact KS (by rw[<-c.d];exact h) zd _ zo
 have E:=(c.save MN zd zd).off (xe h zd) (by rw[c.psof];exact Mc);refine(Hd (n:=340) (N:=340) (m:=m) (f.fresh d) ((d.cell (p:=⟨0,0,none⟩) (No r f.1)).trans O) r (a.below d) (λj g=>l j (a.ef_below d g)) h zd zo A E s rfl D).mono ?_;rintro x w' ⟨rfl,S1,S2,H,L,o,I,⟨J,-⟩,K,M⟩;have e:=(JP K M).1;rw[e] at o;obtain⟨U,V',V,W,X,c',rfl,-⟩:=I;exact⟨rfl,_,H,(bZ.refl a d).trans o,J,trivial⟩
def Me(f:cl B w)(k:cg w v Bs)(t:WJ B q F w JO (λ_=>True)):
 Qo zP 57 #[q,v] w (λx w'=>x= .returned (.string (KO 0 ej))/\WJ B q (λj=>F j\/w.heap.size<=j/\j<w'.heap.size) w' JO (λ_=>True)/\Ch F w w'):=by
 obtain⟨S,b,a,g,h,-⟩:=t;have l: ∀j,EF w q S b j->B<=j:=λj m=>(h j (g j m)).1
 have n:=aa a.sto.blk;have o:w.cell? ⟨q,16,none⟩=some (.pointer (some ⟨S.dp,0,none⟩)):=by rw[NA w q _ _ _ _ a.sto.blk];rfl
 have p:JO.ok:=⟨zk,Ns zk,Ns zk,λσ s=>by cases s⟩;refine mP a g h f.1 (DW k uI rfl o n (xw f l) λu c=>?_);refine(Hb (KK:=0) (rc:=ej) (f.fresh c) (k.below c) (λy d=>?_) zk JS ⟨Ns zk,Ns zk⟩ ⟨Ns zk,Ns zk⟩ ⟨Ns zk,Ns zk⟩).mono ?_
 ·exact GR ((a.below c).below d) p zv ⟨#[99,112,117]⟩ zk zv 0 10 zd zd 0 zk zv (λr i=>by
   have e:JO.τ.tabs.getD 0 none=some ej:=rfl;rw[e] at i;cases i;exact⟨rfl,zd,zd⟩)
 ·rintro x w' ⟨rfl,d⟩
  exact⟨rfl,S,b,bZ.refl a (ai c d),rfl,trivial⟩
end
def Hv:List ByteArray:= [mL,mM,eK,eK,eK,eK,eK,mN,mO]
def wW:Nat->ByteArray
 |0=>⟨#[112,117,116]⟩
 |1=>⟨#[99,104,97,110,103,101]⟩
 |7=>⟨#[99,117,116]⟩
 |8=>⟨#[97,115,107]⟩
 |_=>⟨#[115,116,101,112]⟩
def wL:Nat->ByteArray
 |0=>⟨#[116,110,110]⟩
 |1=>⟨#[116]⟩
 |8=>⟨#[116,110,110]⟩
 |_=>⟨#[]⟩
def KU:Nat->List ByteArray
 |0=> [⟨#[99,112,117]⟩,⟨#[48]⟩,⟨#[53]⟩]
 |1=> [mK]
 |8=> [⟨#[99,112,117]⟩,⟨#[48]⟩,⟨#[49,48]⟩]
 |_=> []
def Ed:Nat->ByteArray
 |0=>dN [0]
 |1=>dN [0,0]
 |2=>dN [0,1,0,0]
 |3=>dN [0,1,0,1]
 |4=>dN [0,1,1,0]
 |5=>dN [0,2,0,0]
 |6=>dN [0,3,0,0]
 |7=>dN [0]
 |_=>KO 0 ej
def fF(k:Nat):cK:=xD (wW k) (wL k) (KU k)
def xy:fF 0=Bn/\fF 1=Bp/\fF 2=jy/\fF 3=jy/\fF 4=jy/\fF 5=jy/\fF 6=jy/\fF 7=Bq/\fF 8=Bs:=⟨zk,zk,zk,zk,zk,zk,zk,zk,zk⟩
def BB(l:ByteArray)(ws:List ByteArray)(a:ByteArray):Prop:=l.size=ws.length/\ws.length<=100/\(∀y∈a::ws,y.size<=1000)/\ ∀k,k<ws.length->l.data.toList.getD k 0≠116->eG (ws.getD k ByteArray.empty)=true
instance(l:ByteArray)(ws:List ByteArray)(wd:ByteArray):Decidable (BB l ws wd):=inferInstanceAs (Decidable (_/\_/\_/\ ∀k,k<ws.length->_))
def mQ{x a l:ByteArray}{ws:List ByteArray}(d:x.size<=990/\Lib.hasPrefix x.data.toList [35]=false/\ ∀y∈bU x ⟨#[32]⟩,(y.toList== [])=false)(e:bU x ⟨#[32]⟩=a::ws)(f: ∀u,Qo zP 160 #[a,(ws.length:Int)] u (aK u (.tuple #[l,true])))(c:BB l ws a):js x a l ws:=
 ⟨d.1,d.2.1,e,d.2.2,f,c.1,c.2.1,c.2.2.1,c.2.2.2⟩
def Mf:js mL (wW 0) (wL 0) (KU 0):=mQ DI Ab (λu=>oU u) zv
def Mg:js mM (wW 1) (wL 1) (KU 1):=mQ DJ Ac (λu=>uH.let_ u) zv
def xz:js eK ⟨#[115,116,101,112]⟩ ⟨#[]⟩ []:=mQ DK Ad (λu=>jr.let_ u) zv
def Mh:js mN (wW 7) (wL 7) (KU 7):=mQ DL Ae (λu=>oV u) zv
def Mi:js mO (wW 8) (wL 8) (KU 8):=mQ DM Af (λu=>uI.let_ u) zv
def Hw: ∀k x,Hv[k]?=some x->js x (wW k) (wL k) (KU k):=by
 intro k x a
 match k,a with
 |0,a=>injection a with a;subst a;exact Mf
 |1,a=>injection a with a;subst a;exact Mg
 |2,a=>injection a with a;subst a;exact xz
 |3,a=>injection a with a;subst a;exact xz
 |4,a=>injection a with a;subst a;exact xz
 |5,a=>injection a with a;subst a;exact xz
 |6,a=>injection a with a;subst a;exact xz
 |7,a=>injection a with a;subst a;exact Mh
 |8,a=>injection a with a;subst a;exact Mi
 |k+9,a=>simp[Hv] at a
def JT(s:cK)(l:ByteArray):Prop:=l.size<=100/\xh l.data.toList l.size=s.text.length/\xi l.data.toList l.size=s.nums.length/\(∀k,k<l.size->(l.data.toList.getD k 0).toNat<128)/\(∀x∈s.nums,aQ x/\eG (gF x)=true)/\(Lib.join ((HH s l.data.toList l.size).map (·.data.toList)) [32]).length<=100000
instance(s:cK)(l:ByteArray):Decidable (JT s l):=inferInstanceAs (Decidable (_/\_/\_/\(∀k,k<l.size->_)/\_/\_))
def mR{s:cK}{l:ByteArray}(a:JT s l):Jp s l:=⟨a.1,a.2.1,a.2.2.1,λk c=>by rw[uJ];exact a.2.2.2.1 k c,a.2.2.2.2.1,a.2.2.2.2.2⟩
def Hx: ∀k,k<9->(fF k).fine (wL k)/\Jp (fF k) (wL k):=by
 intro k a;obtain⟨c,d,e,f,g,h,i,j,l⟩:=xy
 match k,a with
 |0,_=>rw[c];exact⟨Bo,mR zv⟩
 |1,_=>rw[d];exact⟨uH,mR zv⟩
 |2,_=>rw[e];exact⟨jr,mR zv⟩
 |3,_=>rw[f];exact⟨jr,mR zv⟩
 |4,_=>rw[g];exact⟨jr,mR zv⟩
 |5,_=>rw[h];exact⟨jr,mR zv⟩
 |6,_=>rw[i];exact⟨jr,mR zv⟩
 |7,_=>rw[j];exact⟨Br,mR zv⟩
 |8,_=>rw[l];exact⟨uI,mR zv⟩
def Hy: ∀k,k<9->(rK (fF k) (wL k)).size<=1000/\(Ed k).size<=1000:=Ns zk
def KV:JL KM rI mK pj Hv 9 wW wL KU Ed:=⟨Ns zk,DH,⟨rfl,zd,zd⟩,GW,Hw,Hx,Hy⟩
def uU:Nat->au
 |0=>Ho
 |1=>sa
 |2=>JN
 |3=>LN
 |4=>LO
 |5=>LQ
 |6=>LR
 |7=>HI
 |_=>JO
def wK:Nat->aM->Prop
 |0=>λS=>eu S MO 1 0 [] 59 49/\(∃t,S.lg=some (t,LV.new 2 16 1))/\S.bad=0
 |1=>λS=>eu S Mo 1 0 [] 100 63/\S.bad=0
 |2=>λS=>eu S MP 2 2 [ol,om] 140 94/\S.bad=0
 |3=>λS=>eu S MY 3 2 [ol,om] 180 125/\S.bad=0
 |4=>λS=>eu S MZ 4 3 [ol,om,Jr] 220 156/\S.bad=0
 |5=>λS=>eu S Na 5 4 [ol,om,Jr,KZ] 260 187/\S.bad=0
 |6=>λS=>eu S Nb 6 4 [ol,om,Jr,KZ] 300 218/\S.bad=0
 |7=>λS=>eu S Mp 7 4 [ol,om] 340 249/\S.bad=0
 |_=>λ_=>True
def rP(l:List Int)(a:((l.all λx=>decide (aQ x))&&decide ((Lib.join ((l.map gF).map (·.data.toList)) [32]).length<=100000))=true):gb l:=by
 simp only[Ot,On] at a;exact⟨λx c=>Ns (Ob.1 a.1 x c),a.2⟩
section
variable{w:Qm}{B:Nat}{m:Int}
def wJ(B:Nat)(m:Int)(k q:Nat)(F:Nat->Prop)(w:Qm):Prop:=WJ B q F w (uU k) (wK k)/\w.cell? ⟨0,0,none⟩=some (.int .i64 m)/\0<w.heap.size
def BC{F:Nat->Prop}{w w':Qm}{p:Addr}{v:Qn}(d:Ch F w w')(e: ¬F p.block)(c:w.cell? p=some v):w'.cell? p=some v:=
 (World.cell?_of_block (a:=p) (d.block p.block (Nv w p c) e)).trans c
def Nf{q:Nat}{F:Nat->Prop}{v:Qn}(e:0<B)(a:cl B w)(f:w.cell? ⟨0,0,none⟩=some (.int .i64 m))(c:cg w v Bn)(d:WJ B q F w (uU 0) (wK 0)):
 Qo zP 57 #[q,v] w (λx w'=>x= .returned (.string (Ed 0))/\WJ B q (λj=>F j\/w.heap.size<=j/\j<w'.heap.size) w' (uU 1) (wK 1)/\Ch F w w'):=LW a c d
def Ng{q:Nat}{F:Nat->Prop}{v:Qn}(a:0<B)(c:cl B w)(d:w.cell? ⟨0,0,none⟩=some (.int .i64 m))(e:cg w v Bp)(f:WJ B q F w (uU 1) (wK 1)):
 Qo zP 57 #[q,v] w (λx w'=>x= .returned (.string (Ed 1))/\WJ B q (λj=>F j\/w.heap.size<=j/\j<w'.heap.size) w' (uU 2) (wK 2)/\Ch F w w'):=Hr c d a e f
def Nh{q:Nat}{F:Nat->Prop}{v:Qn}(e:0<B)(a:cl B w)(f:w.cell? ⟨0,0,none⟩=some (.int .i64 m))(c:cg w v jy)(d:WJ B q F w (uU 2) (wK 2)):
 Qo zP 57 #[q,v] w (λx w'=>x= .returned (.string (Ed 2))/\WJ B q (λj=>F j\/w.heap.size<=j/\j<w'.heap.size) w' (uU 3) (wK 3)/\Ch F w w'):=rO a c d MI zd zd (rP _ zk) ⟨zk,zk⟩ MR
def Ni{q:Nat}{F:Nat->Prop}{v:Qn}(e:0<B)(a:cl B w)(f:w.cell? ⟨0,0,none⟩=some (.int .i64 m))(c:cg w v jy)(d:WJ B q F w (uU 3) (wK 3)):
 Qo zP 57 #[q,v] w (λx w'=>x= .returned (.string (Ed 3))/\WJ B q (λj=>F j\/w.heap.size<=j/\j<w'.heap.size) w' (uU 4) (wK 4)/\Ch F w w'):=rO a c d MJ zd zd (rP _ zk) ⟨zk,zk⟩ MS
def Nj{q:Nat}{F:Nat->Prop}{v:Qn}(e:0<B)(a:cl B w)(f:w.cell? ⟨0,0,none⟩=some (.int .i64 m))(c:cg w v jy)(d:WJ B q F w (uU 4) (wK 4)):
 Qo zP 57 #[q,v] w (λx w'=>x= .returned (.string (Ed 4))/\WJ B q (λj=>F j\/w.heap.size<=j/\j<w'.heap.size) w' (uU 5) (wK 5)/\Ch F w w'):=rO a c d MK zd zd (rP _ zk) ⟨zk,zk⟩ MT
def Nk{q:Nat}{F:Nat->Prop}{v:Qn}(e:0<B)(a:cl B w)(f:w.cell? ⟨0,0,none⟩=some (.int .i64 m))(c:cg w v jy)(d:WJ B q F w (uU 5) (wK 5)):
 Qo zP 57 #[q,v] w (λx w'=>x= .returned (.string (Ed 5))/\WJ B q (λj=>F j\/w.heap.size<=j/\j<w'.heap.size) w' (uU 6) (wK 6)/\Ch F w w'):=rO a c d ML zd zd (rP _ zk) ⟨zk,zk⟩ MU
def Nl{q:Nat}{F:Nat->Prop}{v:Qn}(e:0<B)(a:cl B w)(f:w.cell? ⟨0,0,none⟩=some (.int .i64 m))(c:cg w v jy)(d:WJ B q F w (uU 6) (wK 6)):
 Qo zP 57 #[q,v] w (λx w'=>x= .returned (.string (Ed 6))/\WJ B q (λj=>F j\/w.heap.size<=j/\j<w'.heap.size) w' (uU 7) (wK 7)/\Ch F w w'):=rO a c d MM zd zd (rP _ zk) ⟨zk,zk⟩ MV
def Nm{q:Nat}{F:Nat->Prop}{v:Qn}(a:0<B)(c:cl B w)(d:w.cell? ⟨0,0,none⟩=some (.int .i64 m))(e:cg w v Bq)(f:WJ B q F w (uU 7) (wK 7)):
 Qo zP 57 #[q,v] w (λx w'=>x= .returned (.string (Ed 7))/\WJ B q (λj=>F j\/w.heap.size<=j/\j<w'.heap.size) w' (uU 8) (wK 8)/\Ch F w w'):=Md c d a e f
def Nn{q:Nat}{F:Nat->Prop}{v:Qn}(e:0<B)(a:cl B w)(f:w.cell? ⟨0,0,none⟩=some (.int .i64 m))(c:cg w v Bs)(d:WJ B q F w (uU 8) (wK 8)):
 Qo zP 57 #[q,v] w (λx w'=>x= .returned (.string (Ed 8))/\WJ B q (λj=>F j\/w.heap.size<=j/\j<w'.heap.size) w' (uU 9) (wK 9)/\Ch F w w'):=Me a c d
def Hz(f:0<B):By B (wJ B m) 9 fF Ed:=by
 refine⟨λk q F G w w' h i s t=>⟨h.1.ch i s,BC i (λg=>by have:=t 0 g;omega) h.2.1,No h.2.2 i.size⟩,λk q F w h j u=>?_,λk q F w v N h e a=>?_⟩
 ·obtain⟨⟨S,b,o,l,n,O⟩,-⟩:=h
  exact n j u
 ·obtain⟨c,d,y⟩:=h
  have key: ∀{σ':au} {p:aM->Prop} {r:ByteArray},Qo zP 57 #[q,v] w (λx w'=>x= .returned (.string r)/\WJ B q (λj=>F j\/w.heap.size<=j/\j<w'.heap.size) w' σ' p/\Ch F w w')->
   Qo zP 57 #[q,v] w (λx w'=>x= .returned (.string r)/\(WJ B q (λj=>F j\/w.heap.size<=j/\j<w'.heap.size) w' σ' p/\w'.cell? ⟨0,0,none⟩=some (.int .i64 m)/\0<w'.heap.size)/\Ch F w w'):=λi=>by
   refine i.mono ?_;rintro x w' ⟨rfl,o,l⟩;refine⟨rfl,⟨o,BC l (λg=>?_) d,No y l.size⟩,l⟩;obtain⟨S,b,-,-,n,-⟩:=c;have:=(n 0 g).1;omega
  obtain⟨A,C,D,E,H,I,J,K,L⟩:=xy;have M:k=0\/k=1\/k=2\/k=3\/k=4\/k=5\/k=6\/k=7\/k=8:=zo;rcases M with rfl|rfl|rfl|rfl|rfl|rfl|rfl|rfl|rfl
  ·rw[A] at a;exact key (Nf f e d a c)
  ·rw[C] at a;exact key (Ng f e d a c)
  ·rw[D] at a;exact key (Nh f e d a c)
  ·rw[E] at a;exact key (Ni f e d a c)
  ·rw[H] at a;exact key (Nj f e d a c)
  ·rw[I] at a;exact key (Nk f e d a c)
  ·rw[J] at a;exact key (Nl f e d a c)
  ·rw[K] at a;exact key (Nm f e d a c)
  ·rw[L] at a;exact key (Nn f e d a c)
end
def HA:ByteArray:=⟨(xr fF wL Ed 9).toArray⟩
section
variable{w:Qm}{m:Int}
def HB(l:cl w.heap.size w)(n:w.cell? ⟨0,0,none⟩=some (.int .i64 m))(d:0<w.heap.size):Qo zP 16 #[KM] w (aK w (.string HA)):=by
 have e: ∀c,Qr w.heap.size w c->c.cell? ⟨0,0,none⟩=some (.int .i64 m):=λc a=>(a.cell (p:=⟨0,0,none⟩) d).trans n
 refine Hl (m:=m) (J:=wJ w.heap.size m) l n d KV (λc v a o=>?_) (λc a=>rH (e c a)) (λc a=>?_) (Hz d)
 ·have:=zZ (e c a) o (by show(9:Nat)<=1000;decide) oe.1 oe.2.1 Aa oe.2.2 zk
  rw[(zk:iq ⟨#[57,48]⟩=90)] at this;exact this
 ·refine(DE (B0:=w.heap.size) (m:=m) (l.fresh a) d (e c a) Jo.parsed JR (by have r:pj.size<=1000000:=Ns zk;exact r) λS0 L s t u y A=>?_).mono ?_
  ·exact(rN (S0:=S0) (dp:=S0.dp) (B:=S0.B) ⟨rfl,rfl,zo,s,t,u,y,A⟩).save LS zd zd
  ·rintro x w' ⟨q,dp,S,b,rfl,h,C,i,g,M,D⟩
   subst C;obtain⟨E,F,H⟩:=D.kept LS;have I:(ff (DV.fresh 90) 0 [] Ho).id=0:=zk;have K:(ff (DV.fresh 90) 0 [] Ho).out= []:=zk;have k:eu S (il (pi (DV.fresh 90)) 0 0 [] Ho) 1 (ff (DV.fresh 90) 0 [] Ho).id (ff (DV.fresh 90) 0 [] Ho).out 59 49:=E;rw[I,K] at k;exact⟨q,λj=>EF w' q S b j,rfl,⟨⟨S,b,h,λj f=>f,λj f=>⟨Nq a.size (i j f),h.lt f⟩,k,F,H⟩,(g.cell (p:=⟨0,0,none⟩) (No d a.size)).trans (e c a),No d (Nq a.size g.size)⟩,g,i⟩
def Ee(d:cl w.heap.size w)(e:w.cell? ⟨0,0,none⟩=some (.int .i64 m))(f:0<w.heap.size):Qo zP 4 #[] w (aK w (.bool true)):=by
 have g:=zh (HB d e f);clear d e f;go_enter func4,ntmps4;go_wp2_with fail;refine g.mono ?_;rintro x i ⟨rfl,a⟩;have h:=zh a;clear a;obtain⟨j,c⟩:=zy HA;rw[<-c];go_wp2_with fail;go_ret;refine⟨?_,h⟩;rw[c];kernel_rfl
end
def cl.at_end{w:Qm}{B:Nat}(a:cl B w):cl w.heap.size w:=⟨Nt _,λu c=>a.2 u (c.mono a.1)⟩
def Lb{w:Qm}{B0:Nat}{m k g tick e v:Int}{name:ByteArray}(a:cl B0 w)(d:0<B0)(f:w.cell? ⟨0,0,none⟩=some (.int .i64 m))(h:aQ tick)(i:aQ e)(j:aQ v):
 Qo zP 3 #[k,g,tick,name,e,v] w (aK w (.bool true)):=
 Hj a d f (λl c=>Ee (a.fresh c).at_end ((c.cell (p:=⟨0,0,none⟩) (No d a.1)).trans f) (No d (a.fresh c).1)) h i j
end Go.Proofs.YtdflhgceeloijaaGreatDoor
