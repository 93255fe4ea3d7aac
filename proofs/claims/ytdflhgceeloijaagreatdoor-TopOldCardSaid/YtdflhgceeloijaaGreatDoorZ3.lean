import Derived.Test.YtdflhgceeloijaaGreatDoorZ1
import Derived.Test.YtdflhgceeloijaaGreatDoorZ2
import Derived.Lib.MinMax
import Derived.Test.YtdflhgceeloijaaGreatDoorSf
import Derived.WalkKit
import Derived.Carry
import Derived.Laws.AppendOwnNone
set_option linter.all false
set_option maxRecDepth 100000
set_option maxHeartbeats 16000000
namespace Go.Proofs.YtdflhgceeloijaaGreatDoor
open Go Go.RowKit Tryz
open Tryz renaming prog→zP
open Go renaming World→Qm,Value→Qn,Calls→Qo,TypeId→Qp,Ending→Qq
open Go.RowKit renaming Below→Qr,Hid→Qs
def gC{w:Qm}{B:Nat}{v:Qn}{l:List Qt}(e:w.ownsRow B 9 1 v l.length (l.map Value.string))(i: ∀s∈l,s.size<=9223372036854775807):bq w v l:=by
 have c:=e;rcases e.2 with⟨a,d⟩|⟨g,cap,k,a,_,_,d,f,_,_⟩
 ·subst a
  obtain rfl:=NI d;exact BG _
 ·subst a
  refine⟨_,cap,rfl,i,⟨zo,by unfold maxLen at f;omega⟩,λ_=>⟨g,0,rfl,(c.lt g rfl).2,λj h=>?_⟩⟩;have:=c.cellAt j zo;rw[Ok,this];simp[h]
def nn:(zP.info? 9).map (λi=>(i.zero,i.size,i.bytes))=some (some (.string ByteArray.empty),1,16):=zk
def qt(s:Qt)(k:Nat):Qt:=s.extract (k*224) (min ((k+1)*224) s.size)
def xW(g a:Int)(s:Qt)(k:Nat):Qt:=xN g a k (fd s.size) (qt s k)
def pd(g a:Int)(s:Qt)(k:Nat):List Qt:=(List.range k).map (xW g a s)
def fe(g a:Int)(s:Qt):List Qt:=pd g a s (fd s.size)
def BZ(g a:Int)(s:Qt)(k:Nat):pd g a s (k+1)=pd g a s k++ [xW g a s k]:=by unfold pd;rw[PB,NU];rfl
def vF(g a:Int)(s:Qt)(k:Nat):(pd g a s k).length=k:=by simp[pd]
def mf(g a:Int)(s:Qt):(fe g a s).length=fd s.size:=vF _ _ _ _
def qu(s:Qt)(k:Nat):(qt s k).size<=224:=by unfold qt;rw[OD];omega
def Ca(g a:Int)(s:Qt)(k:Nat):(xW g a s k).size=256:=BP _ _ _ _ _ (qu s k)
def iI(g c:Int)(s:Qt): ∀b∈fe g c s,b.size=256:=by
 intro b a;unfold fe pd at a;obtain⟨k,_,rfl⟩:=OI.1 a;exact Ca _ _ _ _
def pr{n:Nat}(a:n<=1000000):1<=fd n/\fd n<=4465:=by unfold fd;split<;>omega
def Cb{n k:Nat}(a:k<fd n):k*224<=n:=by unfold fd at a;split at a<;>omega
def Kd(w:Qm)(l:List Qt)(e:Qq)(w':Qm):Prop:= ∃v,e= .returned v/\Qs (w'.ownsRow w.heap.size 9 1 v l.length (l.map Value.string))/\Qs (Qr w.heap.size w w')
def tZ(g a:Int)(s:Qt)(w:Qm)(a1:0<=g/\g<=18446744073709551615)(a2:0<=a/\a<4294967296)(h:s.size<=1000000):
 Qo zP 194 #[.int .u64 g,a,s] w (Kd w (fe g a s)):=by
 obtain⟨B,C,D,E,F⟩:=info_parts nn;obtain⟨N,c⟩:=zy (fd s.size);have H:=pr h;rw[<-c] at H;have I:=zh h;have a3:(s.size:Int)<=1000000:=zo;have a4:(N:Int)<=4465:=zo;have J:=zh (show fe g a s=pd g a s N by unfold fe;rw[<-c]);rw[J];clear h;go_enter func194,ntmps194;go_wp2_with fail;refine zb (vk s.size _ (by have:=I.out;omega)) λa5 K=>?_
 rw[<-c];go_wp2;go_loopw [7,15] (λv x wr=> ∃k:Nat,k<=N/\x= .int .i64 k/\Qs (wr.ownsRow w.heap.size 9 1 v k ((pd g a s k).map Value.string))/\Qs (Qr w.heap.size w wr)) (λ_ x _=>N-(intOf x).toNat)
 case atStart=>exact⟨0,Nx _,rfl,zh zw,K⟩
 case round=>
  obtain⟨k,a6,rfl,d,i⟩:=hrel;by_cases L:k<N
  ·obtain⟨A,a7⟩: ∃A:Nat,(k:Int)*224=A:=⟨k*224,zo⟩
   obtain⟨M,a8⟩: ∃M:Nat,min (((k:Int)+1)*224) (s.size:Int)=M:=⟨min ((k+1)*224) s.size,zo⟩;have e:k*224<=s.size:=Cb (by rw[<-c];exact L);have a9:A<=M:=zo;have b0:M<=s.size:=zo
   have l:s.extract A M=qt s k:=by
    unfold qt;rw[(zo:A=k*224),(zo:M=min ((k+1)*224) s.size)]
   have O:=zh l;have m:=zh (qu s k);have n:=zh (show xW g a s k=xN g a k N (qt s k) by unfold xW;rw[<-c]);have Q:=zh (BZ g a s k);obtain⟨P,p⟩:=zx (qt s k);rw[<-p] at l m n;have b1:(k:Int)<=4465:=zo;clear e p O;go_wp2_with fail;refine zb (Ew g a k N P P.size _ rfl a1 a2 zo zo m) λf q=>?_
   rw[<-n];have r:=aS d q;have t:=ai i q;obtain⟨b2,b3,rfl⟩:=az d;have R:w.heap.size<=f.heap.size:=t.size;go_wp2_with (at_builtin;refine wpList_append_lies _ rfl (.tmp 28) (.tmp 38) 121 rfl w.heap.size 9 B (.string ByteArray.empty) 1 16 underlying121 C D E F rfl zd _ k ((pd g a s k).map Value.string) rfl (r.alloc _) ⟨f.heap.size,0,none⟩ 1 1 [.string (xW g a s k)] rfl rfl ?c1 ?c2 zd ?c3 ?c4 ?c5 (f.heap.size+1) ?c6 ?_)
   case c1=>exact iA _ _ _
   case c2=>simp[Value.oneCell']
   case c3=>unfold maxLen;omega
   case c4=>omega
   case c5=>simp;omega
   case c6=>simp
   intro S T U u y V W;have X:=zh (show U.ownsRow w.heap.size 9 1 (.slice (some ⟨S,0,none⟩) (k+1) T) (k+1) ((pd g a s (k+1)).map Value.string) by rw[Q,NU];exact u);have Y:=Below.grown (aL (o:= .cells #[.string (xW g a s k)] 9) t R) y zu (λj Z=>(r.lt j Z).1);clear u y V W;go_wp2;go_roundw
   case rel=>exact⟨k+1,zo,by go_num,X,Y⟩
   case measure=>simp[intOf];omega
  ·have e:k=N:=zo
   have a0:=zh (show wr.ownsRow w.heap.size 9 1 _ N ((pd g a s N).map Value.string) by rw[<-e];exact d);clear d e;go_wp2;go_ret;exact⟨_,rfl,by rw[vF];exact a0,i⟩
def vG{w:Qm}{b:Nat}{T:Qp}{a c d e f g h:Qn}(i:w.heap[b]?=some (.cells #[a,c,d,e,f,g,h] T)):
 w.cell? ⟨b,0,none⟩=some a/\w.cell? ⟨b,1,none⟩=some c/\w.cell? ⟨b,2,none⟩=some d/\w.cell? ⟨b,3,none⟩=some e/\w.cell? ⟨b,4,none⟩=some f/\w.cell? ⟨b,5,none⟩=some g/\w.cell? ⟨b,6,none⟩=some h:=by
 refine⟨?_,?_,?_,?_,?_,?_,?_⟩<;>(rw[NA w b _ _ _ _ i];rfl)
structure LV where
 frm:Int
 n:Int
 gen:Int
 used:Int
 recs:Int
 bad:Int
structure fm(w0 w:Qm)(B q c:Nat)(d:DV)(t:Nat)(G:LV):Prop where
 disk:bg w B q c d
 bes:Ex w q t (.cells #[.pointer (some ⟨q,0,none⟩),.int .i64 G.frm,.int .i64 G.n,.int .u64 G.gen,.int .i64 G.used,.int .i64 G.recs,.int .i64 G.bad] 220)
 bel:Qr w0.heap.size w0 w
 ge:w0.heap.size<=B/\w0.heap.size<=t
section
variable{w0 w w':Qm}{B q c t:Nat}{d:DV}{G:LV}
def fm.step_(a:fm w0 w B q c d t G)(e:Qr w.heap.size w w'):fm w0 w' B q c d t G:=
 ⟨a.disk.step e,a.bes.ret (a.disk.dstep e),a.bel.trans (e.mono a.bel.size),a.ge⟩
def fm.ret{c':Nat}{d':DV}(a:fm w0 w B q c d t G)(f:bg w' B q c' d')(e:cS q w w'):fm w0 w' B q c' d' t G:=
 ⟨f,a.bes.ret e,a.bel.trans ((a.disk.below e).mono a.ge.1),a.ge⟩
def fm.mono{c':Nat}(a:fm w0 w B q c d t G)(e:c<=c'):fm w0 w B q c' d t G:=⟨a.disk.mono e,a.bes,a.bel,a.ge⟩
def fm.set{i:Nat}{y:Qn}{G':LV}(a:fm w0 w B q c d t G)(h:(#[.pointer (some ⟨q,0,none⟩),.int .i64 G.frm,.int .i64 G.n,.int .u64 G.gen,.int .i64 G.used,.int .i64 G.recs,.int .i64 G.bad]:Array Qn).setIfInBounds i y=#[.pointer (some ⟨q,0,none⟩),.int .i64 G'.frm,.int .i64 G'.n,.int .u64 G'.gen,.int .i64 G'.used,.int .i64 G'.recs,.int .i64 G'.bad]):fm w0 (w.setCell ⟨t,i,none⟩ y) B q c d t G':=by
 have e:=a.disk.beside (w':=w.setCell ⟨t,i,none⟩ y) a.bes zd zm (λk f=>by rw[af _ f]);exact⟨e,⟨λg=>a.bes.1 ((qg a.bes.ne).1 g),by rw[al a.bes.2,h]⟩,ao a.bel a.ge.2,a.ge⟩
structure gv(q t:Nat)(w w':Qm):Prop where
 size:w.heap.size<=w'.heap.size
 block: ∀k,k<w.heap.size-> ¬cL w q k->k≠t->w'.heap[k]?=w.heap[k]?
 own: ∀k,cL w' q k->cL w q k\/w.heap.size<=k
def gv.trans{q t:Nat}{a b c:Qm}(d:gv q t a b)(k:gv q t b c):gv q t a c:=
 ⟨Nq d.size k.size,λi e g h=>(k.block i (No e d.size) (λf=>(d.own i f).elim g (λj=>zo)) h).trans (d.block i e g h),λi e=>(k.own i e).elim (d.own i) (λf=> .inr (Nq d.size f))⟩
def gv.of{q t:Nat}{w w':Qm}(a:cS q w w'):gv q t w w':=⟨a.size,λk c d _=>a.block k c d,a.own⟩
def fm.lstep(a:fm w0 w B q c d t G)(e:Qr w.heap.size w w'):gv q t w w':=gv.of (a.disk.dstep e)
def fm.lset{i:Nat}{y:Qn}(f:fm w0 w B q c d t G):gv q t w (w.setCell ⟨t,i,none⟩ y):=
 ⟨zm,λk _ _ a=>af _ a,λk e=> .inl ((qg f.bes.ne).1 e)⟩
def Ie(w0 w:Qm)(B q c:Nat)(d:DV)(t:Nat)(G:LV)(v:Qn)(e:Qq)(w':Qm):Prop:=e= .returned v/\Qs (fm w0 w' B q c d t G)/\Qs (gv q t w w')
def ss(q:Nat)(n g:Int)(w:Qm):Qo zP 341 #[q,n,.int .u64 g] w (aK w (.bool (decide (0<g)&&decide (1<=n)&&decide (n<=4096)))):=by
 by_cases a:0<g
 ·by_cases c:1<=n
  ·by_cases d:n<=4096
   ·rw[show(decide (0<g)&&decide (1<=n)&&decide (n<=4096))=true by simp[a,c,d]]
    go_enter func341,ntmps341;go_wp2;go_ret;exact⟨rfl,ND _ _⟩
   ·rw[show(decide (0<g)&&decide (1<=n)&&decide (n<=4096))=false by simp[a,c,d]]
    go_enter func341,ntmps341;go_wp2;go_ret;exact⟨rfl,ND _ _⟩
  ·rw[show(decide (0<g)&&decide (1<=n)&&decide (n<=4096))=false by simp[a,c]]
   go_enter func341,ntmps341;go_wp2;go_ret;exact⟨rfl,ND _ _⟩
 ·rw[show(decide (0<g)&&decide (1<=n)&&decide (n<=4096))=false by simp[a]]
  go_enter func341,ntmps341;go_wp2;go_ret;exact⟨rfl,ND _ _⟩
def LV.new(frm n g:Int):LV:=⟨frm,n,g,0,0,0⟩
def If(frm n g:Int)(h:Qs (bg w B q c d))(i:0<g)(f:1<=n/\n<=4096):
 Qo zP 262 #[.pointer (some ⟨q,0,none⟩),.int .i64 frm,.int .i64 n,.int .u64 g] w (λe w'=> ∃t,e= .returned (.tuple #[.pointer (some ⟨t,0,none⟩),.int .i64 0])/\w.heap.size<=t/\bg w' B q c d/\Ex w' q t (.cells #[.pointer (some ⟨q,0,none⟩),.int .i64 (LV.new frm n g).frm,.int .i64 (LV.new frm n g).n,.int .u64 (LV.new frm n g).gen,.int .i64 (LV.new frm n g).used,.int .i64 (LV.new frm n g).recs,.int .i64 (LV.new frm n g).bad] 220)/\Qr w.heap.size w w'):=by
 have j:=zh (show(decide (0<g)&&decide (1<=n)&&decide (n<=4096))=true by simp[i,f.1,f.2]);clear i f;go_enter func262,ntmps262;go_wp2_with fail;refine zb (ss q n g _) λk a=>?_
 rw[j];go_wp2;go_ret2;exact⟨k.heap.size,rfl,a.size,(h.step a).step ze,⟨ko (h.step a) ze zl,Nu _ _⟩,ai a ze⟩
def LV.left(G:LV):Int:=G.n-G.used
def LV.ok(G:LV):Prop:=(-1000000<=G.frm/\G.frm<=1000000)/\(0<=G.n/\G.n<=4096)/\(0<=G.used/\G.used<=4096)/\(0<=G.recs/\G.recs<=1000000)/\(0<=G.gen/\G.gen<=18446744073709551615)
def EV(a:w.heap[t]?=some (.cells #[q,(G.frm:Int),(G.n:Int),.int .u64 G.gen,(G.used:Int),(G.recs:Int),(G.bad:Int)] 220))(m:G.ok):Qo zP 195 #[t] w (aK w (.int .i64 G.left)):=by
 obtain⟨_,n,o,_,_⟩:=m;have d:=a;obtain⟨c0,p,f,r,g,s,u⟩:=vG d;have h:=zh (show G.left=G.n-G.used from rfl);rw[h];have i:=zh (show IntKind.i64.wrap (G.n-G.used)=G.n-G.used by rw[IntKind.wrap_i64];omega);clear a d;go_enter func195,ntmps195;go_wp2_with fail;refine zI (λw'=>Qr w.heap.size w w'/\w'.cell? ⟨t,2,none⟩=some (.int .i64 G.n)/\w'.cell? ⟨t,4,none⟩=some (.int .i64 G.used)) 10 (zL [?_,?_,?_,?_,?_,?_,?_,?_,?_,?_]) (λv j a c=>⟨ai a.1 c,ae a.2.1 c,ae a.2.2 c⟩) (⟨zr.drew,f,g⟩) ?_;rotate_right
 iterate 10
  refine zW ?_
 refine zD λj e k=>?_
 have l:=zh e.1;clear e k;go_wp2;go_ret;exact⟨Of (λx=>Ending.returned (Value.int .i64 x)) i,l⟩
def pu(c:w.heap[t]?=some (.cells #[q,(G.frm:Int),(G.n:Int),.int .u64 G.gen,(G.used:Int),(G.recs:Int),(G.bad:Int)] 220)):Qo zP 128 #[t] w (aK w (.int .i64 G.bad)):=by
 have a:=c;obtain⟨c0,d,e,f,g,h,i⟩:=vG a;clear c a;go_enter func128,ntmps128;go_wp2;go_ret;exact⟨rfl,ND _ _⟩
def su(x:Int)(H:Qs (fm w0 w B q c d t G)):Qo zP 130 #[t,x] w (Ie w0 w B q c d t {G with bad:=x} (.int .i64 x)):=by
 have a:=H.bes.2;obtain⟨c0,e,f,g,h,i,j⟩:=vG a;have k:=ad (o:=6) a;clear a;go_enter func130,ntmps130;go_wp2;go_ret;exact⟨rfl,H.set rfl,H.lset⟩
def LV.flush(G:LV)(d:DV):DV×LV×Int:=if G.bad≠0 then(d,G,G.bad) else(d.flush.1,{G with bad:=d.flush.2},d.flush.2)
def xX(H:Qs (fm w0 w B q c d t G))(y:c<=1000000)(A:0<=d.writes/\d.writes<=1000000000000):Qo zP 73 #[t] w (Ie w0 w B q c (G.flush d).1 t (G.flush d).2.1 (.int .i64 (G.flush d).2.2)):=by
 by_cases a:G.bad=0
 ·rw[show G.flush d=(d.flush.1,{G with bad:=d.flush.2},d.flush.2) from NB (by simpa using a)]
  have j:=zh a;clear a;go_enter func73,ntmps73;go_wp2_with fail;refine zb (pu H.bes.2) λk f=>?_
  rw[j];have g:=H.step_ f;have S1:=H.lstep f;have h:=g.bes.2;obtain⟨c0,l,m,n,o,p,r⟩:=vG h;clear h;go_wp2_with fail;refine(iG g.disk y A).mono ?_;rintro e C ⟨rfl,s,i⟩;have u:=zh (g.ret s i);have S2:=S1.trans (gv.of i);clear c0 l m n o p r;go_wp2_with fail;refine(su _ u).mono ?_;rintro e D ⟨rfl,v,x⟩;go_wp2;go_ret;exact⟨rfl,v,S2.trans x⟩
 ·rw[show G.flush d=(d,G,G.bad) from NH a]
  have E:(G.bad !=0)=true:=by simpa using a
  clear a;go_enter func73,ntmps73;go_wp2_with fail;refine zb (pu H.bes.2) λk f=>?_
  have g:=H.step_ f;have S1:=H.lstep f;go_wp2;go_ret;exact⟨rfl,g,S1⟩
end
def Ms(B:Nat)(l:List Qt):br kM:= .rel (λv w=>w.ownsRow B 9 1 v l.length (l.map Value.string)) (λv w w' a c=>aS a c)
def EW{w:Qm}{B c k n:Nat}{e:Qp}{v:Qn}{d:List Qn}(l:w.ownsRow B e k v n d)(m:c<=B):w.ownsRow c e k v n d:=by
 obtain⟨f,a⟩:=l;refine⟨f,?_⟩;rcases a with a|⟨g,cap,h,a,i,j⟩
 ·exact .inl a
 ·exact .inr ⟨g,cap,h,a,Nq m i,j⟩
def LV.at(G:LV)(k:Nat):LV:={G with used:=G.used+k}
def jw(G:LV)(L:List Qt)(d:DV):Nat->DV×Nat×Int
 |0=>(d,0,0)
 |k+1=>
  let r:=jw G L d k
  if r.2.2≠0 then r else
   let x:=r.1.write (G.frm+(G.used+k)) (L.getD k ByteArray.empty)
   (x.1,(if x.2=0 then k+1 else k),x.2)
def AE{G:LV}{L:List Qt}{d:DV}{k:Nat}(a:(jw G L d k).2.2≠0): ∀j,jw G L d (k+j)=jw G L d k
 |0=>rfl
 |j+1=>by
  have e:=AE a j;show(if (jw G L d (k+j)).2.2≠0 then jw G L d (k+j) else _)=_;rw[e,NH a]
def EX{G:LV}{L:List Qt}{d:DV}: ∀k,(jw G L d k).2.2=0->(jw G L d k).2.1=k
 |0,_=>rfl
 |k+1,a=>by
  unfold jw at a⊢;dsimp only at a⊢;split at a
  ·rename_i c;exact absurd a c
  ·rename_i c
   rw[NB c];dsimp only at a⊢;rw[NH a]
def LV.app(G:LV)(d:DV)(s:Qt):DV×LV×Int:=
 if 3000<s.size then(d,G,2) else if G.left<fd s.size then(d,G,20) else
  let r:=jw G (fe G.gen G.recs s) d (fd s.size)
  if r.2.2≠0 then(r.1,{G.at r.2.1 with bad:=r.2.2},r.2.2) else(r.1,{G.at r.2.1 with recs:=G.recs+1},0)
def lr{G:LV}{L:List Qt}{d:DV}: ∀k,d.writes<=(jw G L d k).1.writes/\(jw G L d k).1.writes<=d.writes+k
 |0=>⟨Ov _,by show d.writes<=d.writes+0;omega⟩
 |k+1=>by
  have a:=lr (G:=G) (L:=L) (d:=d) k;unfold jw;dsimp only;split
  ·omega
  ·have:=lW (jw G L d k).1 (G.frm+(G.used+k)) (L.getD k ByteArray.empty)
   dsimp only;omega
section
variable{w0 w w':Qm}{B q c t:Nat}{d:DV}{G:LV}
def Ig(s:Qt)(h:fm w0 w B q c d t G)(hG:G.ok)(hs:s.size<=100000)(hc:c+100<=1000000)(hw:0<=d.writes/\d.writes<=100000000000):
 Qo zP 129 #[.pointer (some ⟨t,0,none⟩),.string s] w (Ie w0 w B q (c+14) (G.app d s).1 t (G.app d s).2.1 (.int .i64 (G.app d s).2.2)):=by
 have H:=zh h;have HG:=zh hG;have HW:=zh hw;have HC:=zh hc;obtain⟨L,hL⟩: ∃L,L=fe G.gen G.recs s:=⟨_,rfl⟩;obtain⟨N,hN⟩: ∃N,N=fd s.size:=⟨_,rfl⟩;have hLl:L.length=N:=by rw[hL,hN];exact mf _ _ _
 have hLz: ∀k,k<N->(L.getD k ByteArray.empty).size=256:=λk hk=>by
  rw[Nr,Np (by omega)];exact iI G.gen G.recs s _ (by rw[<-hL];exact NT _)
 have hLz2: ∀b∈L,b.size<=9223372036854775807:=λb hb=>by rw[iI G.gen G.recs s b (by rw[<-hL];exact hb)];decide
 have HA1:=zh (λ(hh:3000<s.size)=>show G.app d s=(d,G,2) from NH hh);have HA2:=zh (λ(h1: ¬3000<s.size) (h2:G.left<N)=>show G.app d s=(d,G,20) by unfold LV.app;rw[NB h1,NH (by rw[<-hN];exact h2)]);have HA3:=zh (λ(h1: ¬3000<s.size) (h2: ¬G.left<N) (h3:(jw G L d N).2.2≠0)=>show G.app d s=((jw G L d N).1,{G.at (jw G L d N).2.1 with bad:=(jw G L d N).2.2},(jw G L d N).2.2) by unfold LV.app;rw[NB h1,NB (by rw[<-hN];exact h2),<-hN,<-hL];dsimp only;rw[NH h3]);have HA4:=zh (λ(h1: ¬3000<s.size) (h2: ¬G.left<N) (h3: ¬(jw G L d N).2.2≠0)=>show G.app d s=((jw G L d N).1,{G.at (jw G L d N).2.1 with recs:=G.recs+1},0) by unfold LV.app;rw[NB h1,NB (by rw[<-hN];exact h2),<-hN,<-hL];dsimp only;rw[NB h3]);have HLL:=zh hLl;have HLZ:=zh hLz;have HLZ2:=zh hLz2;have HLE:=zh hL;have HN:=zh hN;have HNB:=zh (show 1<=N/\N<=4465 by rw[hN];exact pr (by omega));have HN14:=zh (λ(h1: ¬3000<s.size)=>show N<=14 by rw[hN];unfold fd;split<;>omega);obtain⟨⟨k1,k2⟩,⟨k3,k4⟩,⟨k5,k6⟩,⟨k7,k8⟩,k9⟩:=hG;have hs0:(s.size:Int)<=100000:=by omega
 have hrow:=h.bes.2;obtain⟨c0,c1,c2,c3,c4,c5,c6⟩:=vG hrow;have HS:=zh hs;clear h hs hw hc hL hN hLl hLz hLz2 hrow;go_enter func129,ntmps129;go_wp2_with fail;refine zI (λw'=>fm w0 w' B q c d t G/\Qr w.heap.size w w'/\w'.cell? ⟨t,3,none⟩=some (.int .u64 G.gen)/\w'.cell? ⟨t,5,none⟩=some (.int .i64 G.recs)) 10 (zL [?_,?_,?_,?_,?_,?_,?_,?_,?_]++(Ms w.heap.size L):: []) (λw1 w2 h hb=>⟨h.1.step_ hb,ai h.2.1 hb,ae h.2.2.1 hb,ae h.2.2.2 hb⟩) (⟨H.out.step_ zr.drew,zr.drew,c3,c5⟩) ?_;rotate_right
 iterate 9
  refine zW ?_
 refine aT zk rfl rfl ?_ λv9=>?_
 ·intro w1 hS hd K hK;(try dsimp only at hS);go_simp;refine(tZ _ _ s _ k9 ⟨k7,by omega⟩ (by have:=HS.out;omega)).mono ?_;rintro e w2 ⟨v,rfl,ho,hb⟩;rw[<-HLE.out] at ho;refine hK.out _ _ _ zz ?_ hb;exact EW ho hS.2.1.size
 simp only[zS];refine zA λw2 hS hd=>?_
 have ho:w2.ownsRow w.heap.size 9 1 v9 L.length (L.map Value.string):=hd.out 9
 obtain⟨b,cap,cur,e9,hbge,hg⟩: ∃b cap cur,v9= .slice (some ⟨b,0,none⟩) L.length cap/\w.heap.size<=b/\w2.heap[b]?=some (.cells cur 9):=by
  rcases ho.2 with⟨_,h1⟩|⟨g,cap,cur,h1,h2,h3,_⟩
  ·have:=HLL.out;have:=HNB.out;omega
  ·exact⟨g,cap,cur,h1,h2,h3⟩
 subst e9
 have HCL:=zh (λ(w':Qm) (h':w'.heap[b]?=some (.cells cur 9)) (j:Nat) (hj:j<N)=>show w'.cell? ⟨b,j,none⟩=some (.string (L.getD j ByteArray.empty)) by
  rw[World.cell?_of_block (w:=w2) (h'.trans hg.symm)];have hj':j<L.length:=by rw[HLL.out];exact hj
  have:=ho.cellAt (g:=b) (cap:=cap) j (by omega);rw[this];simp[hj'])
 have HB2:=zh (show Ex w2 q b (.cells cur 9) from⟨ko H.out.disk hS.2.1 hbge,hg⟩);have HNE:=zh (show b≠t by have:=aa H.out.bes.2;omega);have H2:=zh hS.1;have S2:=H.out.lstep hS.2.1;have hlen:(L.length:Int)=N:=by have:=HLL.out;omega
 rw[HLL.out];clear hS hd ho hbge hg H c0 c1 c2 c3 c4 c5 c6;by_cases h1:3000<s.size
 ·have HRES:=zh (HA1.out h1)
  have h1':(3000:Int)<s.size:=by omega
  clear h1 HA1 HA2 HA3 HA4 HN14;go_wp2;go_ret;exact⟨by rw[HRES.out];rfl,by rw[HRES.out];exact⟨H2.out.mono (show c<=c+14 by omega),S2⟩⟩
 ·have h1': ¬(3000:Int)<s.size:=by omega
  have HN15:=zh (HN14.out h1);have HA2':=zh (HA2.out h1);have HA3':=zh (HA3.out h1);have HA4':=zh (HA4.out h1);clear h1 HA1 HA2 HA3 HA4 HN14;go_wp2_with fail;refine zb (EV H2.out.bes.2 HG.out) λw3 hb3=>?_
  have H3:=H2.out.step_ hb3;have S3:=S2.trans (H2.out.lstep hb3);have HB3:=zh (HB2.out.ret (H2.out.disk.dstep hb3));by_cases h2:G.left<N
  ·have HRES:=zh (HA2'.out (by omega))
   clear HA2' HA3' HA4';go_wp2;go_ret;exact⟨by rw[HRES.out];rfl,by rw[HRES.out];exact⟨H3.mono (show c<=c+14 by omega),S3⟩⟩
  ·have HA3:=zh (HA3'.out (by omega))
   have HA4:=zh (HA4'.out (by omega));clear HA2' HA3' HA4';go_wp2;go_loopw [31] (λx wr=> ∃k:Nat,k<=N/\x= .int .i64 k/\Qs ((jw G L d k).2.2=0)/\Qs (fm w0 wr B q (c+k) (jw G L d k).1 t (G.at k))/\Qs (Ex wr q b (.cells cur 9))/\Qs (gv q t w wr)) (λx _=>N-(intOf x).toNat)
   case atStart=>exact⟨0,Nx _,rfl,zh rfl,zh (by have:=H3;rw[show G.at 0=G by unfold LV.at;simp];exact this),HB3,S3⟩
   case round=>
    obtain⟨k,hk,rfl,HE,HW1,HB1,SW1⟩:=hrel;by_cases hlt:k<N
    ·have HDW:=zh (lr (G:=G) (L:=L) (d:=d) k)
     have HLK:=zh (HLZ.out k hlt)
     have hk1:jw G L d (k+1)=(((jw G L d k).1.write (G.frm+(G.used+k)) (L.getD k ByteArray.empty)).1,(if ((jw G L d k).1.write (G.frm+(G.used+k)) (L.getD k ByteArray.empty)).2=0 then k+1 else k),((jw G L d k).1.write (G.frm+(G.used+k)) (L.getD k ByteArray.empty)).2):=by
      show(if (jw G L d k).2.2≠0 then _ else _)=_;rw[NB (by simpa using HE.out)]
     have hcell:=HCL.out wr HB1.out.2 k hlt;obtain⟨Dk,hDk⟩: ∃D,D=(jw G L d k).1:=⟨_,rfl⟩;obtain⟨Lk,hLk⟩: ∃x,x=L.getD k ByteArray.empty:=⟨_,rfl⟩;obtain⟨d',e',hde⟩: ∃d' e',Dk.write (G.frm+(G.used+k)) Lk=(d',e'):=⟨_,_,rfl⟩;rw[<-hDk] at HW1 HDW hk1;rw[<-hLk] at HLK hcell hk1;rw[hde] at hk1;dsimp only at hk1;have HK1:=zh hk1;have HDE:=zh hde;have hrow:=HW1.out.bes.2;obtain⟨c0,c1,c2,c3,c4,c5,c6⟩:=vG hrow;have hk14:k<=14:=by have:=HN15.out;omega
     have hwrap:IntKind.i64.wrap (G.frm+(G.used+k))=G.frm+(G.used+k):=by rw[IntKind.wrap_i64];omega
     simp only[LV.at] at c0 c1 c2 c3 c4 c5 c6;clear hk1 hde hrow hDk hLk;go_wp2_with fail;refine zI (λw'=>(fm w0 w' B q (c+k) Dk t (G.at k)/\Qr wr.heap.size wr w')/\w'.cell? ⟨t,0,none⟩=some (.pointer (some ⟨q,0,none⟩))/\w'.cell? ⟨t,1,none⟩=some (.int .i64 G.frm)/\w'.cell? ⟨t,4,none⟩=some (.int .i64 (G.used+k))) 14 (zL [?_,?_,?_,?_,?_,?_,?_,?_,?_,?_,?_,?_,?_,?_]) (λw1 w2 h hb=>⟨⟨h.1.1.step_ hb,ai h.1.2 hb⟩,ae h.2.1 hb,ae h.2.2.1 hb,ae h.2.2.2 hb⟩) (⟨⟨HW1.out.step_ zr.drew,zr.drew⟩,c0,c1,c4⟩) ?_;rotate_right
     iterate 14
      refine zW ?_
     refine kn (by kernel_rfl) rfl rfl (λw4 hS hd _=>?_);have H4:=zh hS.1.1;have HB4:=zh (HB1.out.ret (HW1.out.disk.dstep hS.1.2));have S4:=SW1.out.trans (HW1.out.lstep hS.1.2)
     (try simp only[hwrap])
     clear hS hd c0 c1 c2 c3 c4 c5 c6;go_wp2_with fail;refine(gJ (G.frm+(G.used+k)) Lk H4.out.disk (by have:=HC.out;omega) (by unfold aQ;omega) (by have:=HW.out;have:=HDW.out;omega) (by rw[HLK.out];decide)).mono ?_;rintro e w5 ⟨rfl,hd,hs⟩;rw[HDE.out] at hd⊢;have H5:=zh (H4.out.ret hd hs);have HB5:=zh (HB4.out.ret hs);have S5:=S4.trans (gv.of hs);dsimp only at H5;clear hwrap;by_cases he:e'=0
     ·subst he
      have hrow:=H5.out.bes.2;obtain⟨c0,c1,c2,c3,c4,c5,c6⟩:=vG hrow;simp only[LV.at] at c4;have f4:=ad (o:=4) hrow;clear hrow
      have hset:=H5.out.set (i:=4) (y:= .int .i64 (G.used+k+1)) (G':=G.at (k+1)) (by
       simp[LV.at];omega)
      have HSET:=zh hset;have S6:=S5.trans (H5.out.lset (i:=4) (y:= .int .i64 (G.used+k+1)));have HBS:=zh (show Ex (w5.setCell ⟨t,4,none⟩ (.int .i64 (G.used+k+1))) q b (.cells cur 9) from⟨λho=>HB5.out.1 ((qg H5.out.bes.ne).1 ho),by rw[af _ HNE.out];exact HB5.out.2⟩);clear hset;go_wp2;go_roundw
      case rel=>exact⟨k+1,hlt,by go_num,zh (by rw[HK1.out]),zh (by rw[HK1.out];exact HSET),HBS,S6⟩
      case measure=>simp[intOf];omega
     ·have he':(e' !=0)=true:=by simpa using he
      have HEE:=zh he
      have hstay:jw G L d N=(d',k,e'):=by
       have h9:=AE (G:=G) (L:=L) (d:=d) (k:=k+1) (by rw[HK1.out];exact he) (N-(k+1));rw[show k+1+(N-(k+1))=N by omega] at h9;rw[h9,HK1.out,NB he]
      have HRES:=zh (show G.app d s=(d',{G.at k with bad:=e'},e') by
       have h9:=HA3.out (by rw[hstay];exact he);rw[hstay] at h9;exact h9)
      clear he hstay HA3 HA4;go_wp2_with fail;refine(su e' H5.out).mono ?_;rintro e w6 ⟨rfl,h6,s6⟩;go_wp2;go_ret;exact⟨by rw[HRES.out];rfl,by rw[HRES.out];exact⟨h6.mono (show c+k+1<=c+14 by have:=HN15.out;omega),S5.trans s6⟩⟩
    ·have hkn:k=N:=by omega
     have H1:=zh (show fm w0 wr B q (c+N) (jw G L d N).1 t (G.at N) by rw[<-hkn];exact HW1.out);have hz:(jw G L d N).2.2=0:=by rw[<-hkn];exact HE.out
     have HRES:=zh (show G.app d s=((jw G L d N).1,{G.at N with recs:=G.recs+1},0) by
      have h9:=HA4.out (by simpa using hz);rw[EX N hz] at h9;exact h9)
     have hrow:=H1.out.bes.2;obtain⟨c0,c1,c2,c3,c4,c5,c6⟩:=vG hrow;simp only[LV.at] at c5;have f5:=ad (o:=5) hrow;have HSET:=H1.out.set (i:=5) (y:= .int .i64 (G.recs+1)) (G':={G.at N with recs:=G.recs+1}) rfl;clear hrow hz hkn HA3 HA4 HE HW1;go_wp2;go_ret;exact⟨by rw[HRES.out];rfl,by rw[HRES.out];exact⟨HSET.mono (show c+N<=c+14 by have:=HN15.out;omega),SW1.out.trans H1.out.lset⟩⟩
end
def TB(w:Qm)(q t:Nat)(v:Qn)(l:List Qt):Prop:=bq w v l/\ ∀b o s n c,v= .slice (some ⟨b,o,s⟩) n c->l≠ []-> ¬cL w q b/\b≠t
def TB.step{w w':Qm}{q t:Nat}{v:Qn}{l:List Qt}(C:TB w q t v l)(m:gv q t w w'):TB w' q t v l:=by
 obtain⟨⟨a,c,g,u,x,p⟩,r⟩:=C;refine⟨⟨a,c,g,u,x,λd=>?_⟩,λb o s n c e d=>?_⟩
 ·obtain⟨b,o,f,h,y⟩:=p d
  obtain⟨i,k⟩:=r b o none _ _ (by rw[g,f]) d;exact⟨b,o,f,No h m.size,λj A=>(World.cell?_of_block (m.block b h i k)).trans (y j A)⟩
 ·obtain⟨i,k⟩:=r b o s n c e d
  refine⟨λB=>(m.own _ B).elim i (λD=>?_),k⟩;obtain⟨E,o',f,h,_⟩:=p d;rw[g,f] at e;injection e with e _ _;injection e with e;injection e with e
  omega
def LV.fit(G:LV)(R:Int):Prop:=G.ok/\G.used<=G.n/\G.recs<=R
def Ih{G:LV}{R:Int}(d:DV)(s:Qt)(q:G.fit R)(x:R<=999999):(G.app d s).2.1.fit (R+1)/\(G.app d s).1.writes<=d.writes+14/\d.writes<=(G.app d s).1.writes/\(G.app d s).2.1.gen=G.gen/\(G.app d s).2.1.frm=G.frm/\(G.app d s).2.1.n=G.n:=by
 obtain⟨⟨⟨a,c⟩,⟨e,f⟩,⟨j,l⟩,⟨h,i⟩,g⟩,m,r⟩:=q;unfold LV.app;split
 ·exact⟨⟨⟨⟨a,c⟩,⟨e,f⟩,⟨j,l⟩,⟨h,i⟩,g⟩,m,by dsimp only;omega⟩,by dsimp only;omega,Ov _,rfl,rfl,rfl⟩
 ·rename_i t
  split
  ·exact⟨⟨⟨⟨a,c⟩,⟨e,f⟩,⟨j,l⟩,⟨h,i⟩,g⟩,m,by dsimp only;omega⟩,by dsimp only;omega,Ov _,rfl,rfl,rfl⟩
  ·rename_i o
   have n:=lr (G:=G) (L:=fe G.gen G.recs s) (d:=d) (fd s.size);have u:fd s.size<=14:=by unfold fd;split<;>omega
   have p: ∀k,(jw G (fe G.gen G.recs s) d k).2.1<=k:=by
    intro k
    induction k with
    |zero=>exact Nt _
    |succ k v=>
     unfold jw;dsimp only;split
     ·omega
     ·dsimp only;split<;>omega
   have w:=p (fd s.size);unfold LV.left at o;dsimp only;split
   ·refine⟨⟨⟨⟨a,c⟩,⟨e,f⟩,⟨?_,?_⟩,⟨h,i⟩,g⟩,?_,?_⟩,by dsimp only;omega,n.1,rfl,rfl,rfl⟩<;>(simp only[LV.at];omega)
   ·refine⟨⟨⟨⟨a,c⟩,⟨e,f⟩,⟨?_,?_⟩,⟨?_,?_⟩,g⟩,?_,?_⟩,by dsimp only;omega,n.1,rfl,rfl,rfl⟩<;>(simp only[LV.at];omega)
def eA(G:LV)(d:DV)(l:List Qt):Nat->DV×LV×Int
 |0=>(d,G,0)
 |k+1=>let r:=eA G d l k;if r.2.2≠0 then r else r.2.1.app r.1 (l.getD k ByteArray.empty)
def LV.App(G:LV)(d:DV)(l:List Qt):DV×LV×Int:=if G.bad≠0 then(d,G,G.bad) else eA G d l l.length
def vH{G:LV}{l:List Qt}{d:DV}{k:Nat}(a:(eA G d l k).2.2≠0): ∀j,eA G d l (k+j)=eA G d l k
 |0=>rfl
 |j+1=>by
  have e:=vH a j;show(if (eA G d l (k+j)).2.2≠0 then eA G d l (k+j) else _)=_;rw[e,NH a]
def vI{G:LV}{R:Int}{d:DV}{l:List Qt}(h:G.fit R): ∀k:Nat,R+k<=900000->(eA G d l k).2.1.fit (R+k)/\(eA G d l k).1.writes<=d.writes+14*k/\d.writes<=(eA G d l k).1.writes/\(eA G d l k).2.1.gen=G.gen/\(eA G d l k).2.1.frm=G.frm/\(eA G d l k).2.1.n=G.n
 |0,_=>⟨by show G.fit (R+0);rw[Int.add_zero];exact h,by show d.writes<=d.writes+14*0;omega,Ov _,rfl,rfl,rfl⟩
 |k+1,o=>by
  obtain⟨a,p,i,e,f,g⟩:=vI (d:=d) (l:=l) h k zo;unfold eA;dsimp only;split
  ·exact⟨⟨a.1,a.2.1,by have:=a.2.2;omega⟩,zo,i,e,f,g⟩
  ·obtain⟨c,q,r,j,m,n⟩:=Ih (eA G d l k).1 (l.getD k ByteArray.empty) a zo
   exact⟨⟨c.1,c.2.1,by have:=c.2.2;omega⟩,zo,zo,j.trans e,m.trans f,n.trans g⟩
section
variable{w0 w w':Qm}{B q c t:Nat}{d:DV}{G:LV}
def Ii(v:Qn)(l:List Qt)(R:Int)(m:fm w0 w B q c d t G)(p:G.fit R)(Y:R+l.length<=900000)(Z:TB w q t v l)(b6:Qs (∀s∈l,s.size<=100000))(K:c+14*l.length+200<=1000000)(L:0<=d.writes/\d.writes<=10000000000):
 Qo zP 71 #[t,v] w (Ie w0 w B q (c+14*l.length) (G.App d l).1 t (G.App d l).2.1 (.int .i64 (G.App d l).2.2)):=by
 have H:=zh m;have a0:=zh (λk (M:k<=l.length)=>vI (d:=d) (l:=l) p k zo);have a1:=zh Z;have a2:=zh K;have a3:=zh L;have N:=zh (show l.length<=900000 by have:=p.2.2;have:=p.1.2.2.2.1.1;omega);obtain⟨⟨a,b7,rfl,O,P,-⟩,-⟩:=Z;by_cases g:G.bad=0
 ·have h:=zh (show G.App d l=eA G d l l.length from NB (by simpa using g))
  have a4:=zh g;have b8:(l.length:Int)<=900000:=by have:=N.out;omega
  clear m p Y K L g O P;go_enter func71,ntmps71;go_wp2_with fail;refine zb (pu H.bes.2) λa5 j=>?_
  rw[a4];have A:=H.step_ j;have S1:=H.lstep j;go_wp2;go_loopw [16] (λx wr=> ∃k:Nat,k<=l.length/\x= .int .i64 k/\Qs ((eA G d l k).2.2=0)/\Qs (fm w0 wr B q (c+14*k) (eA G d l k).1 t (eA G d l k).2.1)/\Qs (gv q t w wr)) (λx _=>l.length-(intOf x).toNat)
  case atStart=>exact⟨0,Nx _,rfl,zh rfl,A,S1⟩
  case round=>
   obtain⟨k,M,rfl,C,r,D⟩:=hrel;by_cases i:k<l.length
   ·obtain⟨b,o,rfl,a6⟩: ∃b o,a=some ⟨b,o,none⟩/\wr.cell? ⟨b,o+k,none⟩=some (.string (l.getD k ByteArray.empty)):=by
     obtain⟨b9,c',E,_,_,a7⟩:=(a1.step D).1;obtain⟨b,o,a8,_,a9⟩:=a7 (λm=>by rw[m] at i;exact absurd i (Oy _));injection E with E _ _
     exact⟨b,o,by rw[E,a8],a9 k i⟩
    have Q:=zh (show(l.getD k ByteArray.empty).size<=100000 from b6 _ (by rw[Nr,Np i];exact NT i))
    have f:=zh (show eA G d l (k+1)=(eA G d l k).2.1.app (eA G d l k).1 (l.getD k ByteArray.empty) by
     show(if (eA G d l k).2.2≠0 then _ else _)=_;rw[NB (by simpa using C.out)])
    have F:=zh (a0 k M);obtain⟨b0,S⟩:=zx ((eA G d l k).1);obtain⟨b1,T⟩:=zx ((eA G d l k).2.1);obtain⟨U,V⟩:=zx (l.getD k ByteArray.empty);rw[<-S,<-T] at r F f;rw[<-V] at a6 Q f;obtain⟨d',G',n,I⟩: ∃d' G' n,b1.app b0 U=(d',G',n):=⟨_,_,_,rfl⟩;rw[I] at f;have b2:=zh I;clear I S T V;go_wp2_with fail;refine(Ig U r F.1.1 Q (by have:=a2.out;omega) (by have:=a3.out;have:=F.out;have:=N.out;omega)).mono ?_;rintro e c1 ⟨rfl,u,b3⟩;rw[b2] at u⊢;have S2:=D.trans b3;dsimp only at u;by_cases y:n=0
    ·subst y
     go_wp2;go_roundw
     case rel=>exact⟨k+1,i,by go_num,zh (by rw[f]),zh (by rw[f];exact u.mono (zo:c+14*k+14<=c+14*(k+1))),S2⟩
     case measure=>simp[intOf];omega
    ·have c2:(n !=0)=true:=by simpa using y
     have W:=zh (show G.App d l=(d',G',n) by
      have X:=vH (G:=G) (l:=l) (d:=d) (k:=k+1) (by rw[f];exact y) (l.length-(k+1));rw[(zo:k+1+(l.length-(k+1))=l.length)] at X;rw[h,X,f])
     clear y;go_wp2;go_ret;exact⟨by rw[W];rfl,by rw[W];exact u.mono (zo:c+14*k+14<=c+14*l.length),S2⟩
   ·have J:k=l.length:=zo
    have b4:=zh (show fm w0 wr B q (c+14*l.length) (eA G d l l.length).1 t (eA G d l l.length).2.1 by have:=r.out;rw[J] at this;exact this);have b5:=zh (show(eA G d l l.length).2.2=0 by have:=C.out;rw[J] at this;exact this);clear J r C;go_wp2;go_ret;exact⟨by rw[h,b5];rfl,by rw[h];exact b4,D⟩
 ·have h:=zh (show G.App d l=(d,G,G.bad) from NH g)
  have c3:(G.bad !=0)=true:=by simpa using g
  clear m p Y K L g O P;go_enter func71,ntmps71;go_wp2_with fail;refine zb (pu H.bes.2) λa5 j=>?_
  have A:=H.step_ j;have S1:=H.lstep j;go_wp2;go_ret;exact⟨by rw[h];rfl,by rw[h];exact A.mono (zo:c<=c+14*l.length),S1⟩
end
def UA(w0:Qm)(u:Nat)(l:List UInt8)(k:Nat)(w:Qm):Prop:= ∃s,fj w u 0 s/\s.data.toList=l.drop k/\s.size+k=l.length/\Qr w0.heap.size w0 w/\w0.heap.size<=u
def UA.go{w0 w w':Qm}{u k m:Nat}{l:List UInt8}{s:Qt}(c:fj w u 0 s)(d:s.data.toList=l.drop k)(h:s.size+k=l.length)(e:Qr w0.heap.size w0 w)(a:w0.heap.size<=u)(i:m<=s.size)(f:fj w' u 0 (s.extract m s.size))(g:cR u w w'):UA w0 u l (k+m) w':=by
 refine⟨_,f,?_,by simp;omega,e.trans ((g.below (Oc (aa (show w.heap[u]?=_ from c)))).mono a),a⟩;rw[bK,<-List.drop_drop,<-d,NC zm]
def mg{w0 w:Qm}{u k sz:Nat}{l:List UInt8}(m:UA w0 u l k w)(n:sz=4\/sz=2\/sz=1)(p:k+sz<=l.length)(q:l.length<=1000):
 Qo zP 316 #[u,(sz:Int)] w (λd w'=>d= .returned (.int .i64 (cX ((l.drop k).take sz)))/\Qs (UA w0 u l (k+sz) w')):=by
 obtain⟨s,a,c,f,g,h⟩:=m;refine(jG u sz s w a n zo zo).mono ?_;rintro e o ⟨rfl,i,j⟩;exact⟨by rw[c],UA.go a c f g h zo i j⟩
def Ij{w0 w:Qm}{u k:Nat}{l:List UInt8}(m:UA w0 u l k w)(o:k+8<=l.length)(p:l.length<=1000):
 Qo zP 384 #[u] w (λc w'=>(∃x,c= .returned (.int .u64 x))/\Qs (UA w0 u l (k+8) w')):=by
 obtain⟨s,a,d,f,g,h⟩:=m;refine(iE u s w a zo zo).mono ?_;rintro e n ⟨rfl,i,j⟩;exact⟨⟨_,rfl⟩,UA.go a d f g h zo i j⟩
def UA.bel{w0 w:Qm}{u k:Nat}{l:List UInt8}(a:UA w0 u l k w):Qr w0.heap.size w0 w:=by obtain⟨s,_,_,_,a,_⟩:=a;exact a
def jM(b:Qt)(k:Nat):Int:=cX (((b.extract 4 32).data.toList.drop k).take 2)
def ua(b:Qt)(k:Nat):0<=jM b k/\jM b k<65536:=by
 unfold jM;have a:=gW (((b.extract 4 32).data.toList.drop k).take 2)
 have c:(256:Int)^(((b.extract 4 32).data.toList.drop k).take 2).length<=65536:=by
  have d:=List.length_take_le 2 ((b.extract 4 32).data.toList.drop k);have:(((b.extract 4 32).data.toList.drop k).take 2).length=0\/(((b.extract 4 32).data.toList.drop k).take 2).length=1\/(((b.extract 4 32).data.toList.drop k).take 2).length=2:=zo;rcases this with e|e|e<;>(rw[e];decide)
 omega
def Cc(b:Qt):cX ((b.extract 20 32).data.toList.take 2)=jM b 16:=by
 unfold jM;rw[bK,bK,List.drop_drop]
def pf(bs:List Qt):Nat->Qt
 |0=>ByteArray.empty
 |k+1=>pf bs k++(bs.getD k ByteArray.empty).extract 32 (bs.getD k ByteArray.empty).size
def sx{bs:List Qt}(a: ∀k,k<bs.length->(bs.getD k ByteArray.empty).size=256): ∀k,k<=bs.length->(pf bs k).size=224*k
 |0,_=>rfl
 |k+1,c=>by
  have:=sx a k zo;unfold pf;rw[Oh,this,OD,a k zo];omega
def EY(bs:List Qt):Nat:=(jM (bs.getD 0 ByteArray.empty) 14).toNat
def sy(bs:List Qt):Nat:=(jM (bs.getD (EY bs-1) ByteArray.empty) 16).toNat
def ub(bs:List Qt):Qt:=(pf bs (EY bs)).extract 0 (224*EY bs-224+sy bs)
def mh(g a:Int)(bs:List Qt):Prop:=(1<=EY bs/\EY bs<=bs.length)/\sy bs<=224/\((ub bs).size<=3000/\fd (ub bs).size=EY bs)/\fe g a (ub bs)=bs.take (EY bs)
instance(g nb:Int)(bs:List Qt):Decidable (mh g nb bs):=by unfold mh;infer_instance
def eQ(g a:Int)(bs:List Qt):Qt×Nat:=if mh g a bs then(ub bs,EY bs) else(ByteArray.empty,0)
def Cd(g f:Int)(v:Qn)(bs:List Qt)(w:Qm)(h4:0<=g/\g<=18446744073709551615)(h5:0<=f/\f<4294967296)(h6:bq w v bs)(f3: ∀k,k<bs.length->(bs.getD k ByteArray.empty).size=256)(f4:1<=bs.length/\bs.length<=4096):
 Qo zP 381 #[.int .u64 g,f,v] w (aK w (.tuple #[.string (eQ g f bs).1,.int .i64 (eQ g f bs).2])):=by
 have l9:=zh h6;have b8:=zh f3;obtain⟨a,f5,rfl,-,h7,f6⟩:=h6;obtain⟨b,o,rfl,f7,b9⟩:=f6 (by intro d;rw[d] at f4;simp at f4);have h8:=zh b9;have h9:=zh f7;have m0:(bs.length:Int)<=f5:=zo;have m1:(bs.length:Int)<=4096/\(1:Int)<=bs.length:=zo;obtain⟨m,f8⟩:=zx bs.length;have m2:=zh f8;have q:=zh (λ(d: ¬mh g f bs)=>show eQ g f bs=(ByteArray.empty,0) from NB d);have D:=zh (λ(d:mh g f bs)=>show eQ g f bs=(ub bs,EY bs) from NH d);have c1:=b9 0 zo;have f9:=f3 0 zo;rw[NR] at c1;obtain⟨B0,c2⟩:=zx (bs.getD 0 ByteArray.empty);have g0:=zh c2;rw[<-c2] at c1 f9;have m3:(32:Int)<=B0.size:=zo;have m4:32<=B0.size:=zo;obtain⟨l,Y⟩:=zx ((B0.extract 4 32).data.toList);have g1:l.length=28:=by rw[Y,PN];show(B0.extract 4 32).size=28;rw[OD];omega
 have E:=zh g1;have i0:=zh Y;have i1:=zh (show(B0.extract 4 32).size<=281474976710656 by rw[OD];omega);have i2:=zh (show(B0.extract 4 32).size=28 by rw[OD];omega);have i3:=zh (show cX ((l.drop 14).take 2)=jM B0 14 by unfold jM;rw[Y]);have i4:=zh (show cX ((l.drop 16).take 2)=jM B0 16 by unfold jM;rw[Y]);have i5:=zh (ua B0 14);have i6:=zh (ua B0 16);clear f3 h7 f6 f7 b9 f4 f9 c2 Y g1 f8;go_enter func381,ntmps381;go_wp2_with fail;refine(gV (B0.extract 4 32) _ i1).mono ?_;rintro e i7 ⟨u,rfl,g2,c3,c4⟩;have i8:=zh (show UA w u l 0 i7 from⟨_,c3,by rw[i0,Pn],by rw[i2,E],c4,g2⟩);clear g2;go_wp2_with fail;refine(Ij i8 (by rw[E];decide) (by rw[E];decide)).mono ?_;rintro e m5 ⟨⟨m6,rfl⟩,i9⟩
 skip
 go_wp2_with fail;refine(mg (sz:=4) i9 (.inl rfl) (by rw[E];decide) (by rw[E];decide)).mono ?_;rintro e m7 ⟨rfl,j0⟩
 skip
 go_wp2_with fail;refine(mg (sz:=2) j0 (.inr (.inl rfl)) (by rw[E];decide) (by rw[E];decide)).mono ?_;rintro e m8 ⟨rfl,j1⟩
 skip
 go_wp2_with fail;refine(mg (sz:=2) j1 (.inr (.inl rfl)) (by rw[E];decide) (by rw[E];decide)).mono ?_;rintro e j2 ⟨rfl,c5⟩
 skip
 rw[show(0+8+4+2)=14 from rfl,i3];obtain⟨c,c6⟩: ∃c:Nat,jM B0 14=c:=⟨(jM B0 14).toNat,by have:=i5.out;omega⟩;have r:=zh (show EY bs=c by unfold EY;rw[<-g0,c6];rfl);rw[c6];clear c6;by_cases c7:1<=c/\c<=bs.length
 ·obtain⟨g3,g4⟩:=c7
  have m9:(1:Int)<=c:=zo;have n0:(c:Int)<=bs.length:=zo;have c8:=zh (sx b8);have b7:=zh (λ(w':Qm) (c4:Qr w.heap.size w w') (j:Nat) (B:j<bs.length)=>show w'.cell? ⟨b,o+j,none⟩=some (.string (bs.getD j ByteArray.empty)) from(c4.cell (p:=⟨b,o+j,none⟩) h9).trans (h8 j B));have j3:=zh c5.bel;have n1:(c:Int)<=f5:=zo;clear c1;go_wp2;go_loopw [10,42] (λs x wr=> ∃k:Nat,k<=c/\x= .int .i64 k/\s= .string (pf bs k)/\wr=j2) (λ_ x _=>c-(intOf x).toNat)
  case atStart=>exact⟨0,Nx _,rfl,rfl,rfl⟩
  case round=>
   obtain⟨k,c9,rfl,rfl,rfl⟩:=hrel;by_cases M:k<c
   ·have Z:=b7 wr j3 k zo
    have a0:=b8 k zo;have g5:=c8 k zo;have d0:=zh (show pf bs (k+1)=pf bs k++(bs.getD k ByteArray.empty).extract 32 (bs.getD k ByteArray.empty).size from rfl);obtain⟨d1,g6⟩:=zx (bs.getD k ByteArray.empty);obtain⟨j4,g7⟩:=zx (pf bs k);rw[<-g6] at Z a0 d0;rw[<-g7] at g5 d0⊢;have j5:32<=d1.size:=zo;have n2:j4.size+(d1.extract 32 d1.size).size<=9223372036854775807:=by rw[OD];omega
    clear a0 g5 g6 g7;go_wp2;go_roundw
    case rel=>exact⟨k+1,M,by go_num,by rw[d0],by trivial⟩
    case measure=>simp[intOf];omega
   ·have g8:k=c:=zo
    have g9:pf bs k=pf bs c:=by rw[g8]
    rw[g9];clear g8 g9 c9;go_wp2_with fail;refine(mg (sz:=2) c5 (.inr (.inl rfl)) (by rw[E];decide) (by rw[E];decide)).mono ?_;rintro e j6 ⟨rfl,c3⟩;have a1:=zh c3.bel;rw[show(0+8+4+2+2)=16 from rfl,i4];by_cases d2:c=1
    ·have j7: ¬(1:Int)<c:=zo
     obtain⟨t,N⟩: ∃t:Nat,jM B0 16=t:=⟨(jM B0 16).toNat,by have:=i6.out;omega⟩;have O:=zh (show sy bs=t by unfold sy;rw[r,d2,show 1-1=0 from rfl,<-g0,N];rfl);rw[N];clear N d2;by_cases Q:t<=224
     ·have d3: ¬(224:Int)<t:=zo
      obtain⟨S,L⟩:=zx (pf bs c);have d4:S.size=224*c:=by rw[L];exact c8 c zo
      obtain⟨i,T⟩:=zx (224*c-224+t:Nat);have d5:(S.size:Int)-224+t=i:=zo;have j8:i<=S.size:=zo;have y:=zh (show ub bs=S.extract 0 i by unfold ub;rw[r,O,<-L,<-T]);have d6:(S.extract 0 i).size=i:=by rw[OD];omega
      rw[<-L];have j9:i<=1000000:=zo;have d7:=zh T;clear L T;go_wp2_with fail
      (try rw[<-d7])
      obtain⟨R,a2⟩:=zx (S.extract 0 i);rw[<-a2] at y d6⊢;refine(tZ g f R _ h4 h5 zo).mono ?_;rintro e d8 ⟨k0,rfl,d9,e0⟩;have F:=ai a1 e0;have e1:=gC d9 (λx e2=>by rw[iI g f R x e2];decide);have C:=zh (mf g f R);obtain⟨k1,k2,rfl,-,-,a3⟩:=e1;have e3:=zh a3;have a4:=zh (pr (n:=R.size) zo);obtain⟨A,U⟩:=zx (fd R.size);rw[<-U] at C a4;have a5:=zh U;have k3:((fe g f R).length:Int)=A:=by have:=C.out;omega
      rw[C];have k4:(R.size:Int)=i:=zo;clear a3 U a2 d5 d4;by_cases a6:R.size<=3000
      ·have e4: ¬(3000:Int)<i:=zo
       by_cases H:A=c
       ·obtain⟨k5,k6,rfl,_,a7⟩:=e3 (λd=>by have a8:=C.out;have k7:=a4.out;rw[d] at a8;simp at a8;omega)
        have e5:=zh a7;have I:=zh H;have e6:((A:Int) !=c)=false:=by simp[H]
        have k8:(A:Int)<=bs.length:=zo;clear a7 H;go_wp2;go_loopw [87] (λx wr=> ∃k:Nat,k<=A/\x= .int .i64 k/\Qs (∀j,j<k->(fe g f R).getD j ByteArray.empty=bs.getD j ByteArray.empty)/\wr=d8) (λx _=>A-(intOf x).toNat)
        case atStart=>exact⟨0,Nx _,rfl,zh (λj B=>absurd B (Oy _)),rfl⟩
        case round=>
         obtain⟨k,c9,rfl,a9,rfl⟩:=hrel;by_cases M:k<A
         ·have V:=e5 k (by rw[C];exact M)
          have b0:=b7 wr F k zo;have k9:(k:Int)<bs.length:=zo;by_cases hq:(fe g f R).getD k ByteArray.empty=bs.getD k ByteArray.empty
          ·have e7:=zh hq
           rw[hq] at V;obtain⟨W,J⟩:=zx (bs.getD k ByteArray.empty);rw[<-J] at V b0;have K:(W.toList !=W.toList)=false:=zm;clear hq J;go_wp2;go_roundw
           case rel=>exact⟨k+1,M,by go_num,zh (λj B=>by
            by_cases e8:j<k
            ·exact a9 j e8
            ·rw[(zo:j=k)];exact e7),by trivial⟩
           case measure=>simp[intOf];omega
          ·have K:(((fe g f R).getD k ByteArray.empty).toList !=(bs.getD k ByteArray.empty).toList)=true:=by
            simp only[bne_iff_ne,ne_eq];intro d;rw[ByteArray.toList_eq,ByteArray.toList_eq] at d;apply hq;have e9:((fe g f R).getD k ByteArray.empty).data=(bs.getD k ByteArray.empty).data:=Pt.1 d;exact Qg e9
           have h:=zh (q (λd=>hq (by
            have b1:=d.2.2.2;rw[y,r] at b1;rw[b1,Nr,Pv,NH (by have:=I.out;omega),<-Nr])))
           have b2:(((fe g f R).getD k ByteArray.empty).toList==(bs.getD k ByteArray.empty).toList)=false:=by
            rw[bne] at K;simpa using K
           obtain⟨l0,b3⟩:=zx ((fe g f R).getD k ByteArray.empty);obtain⟨W,J⟩:=zx (bs.getD k ByteArray.empty);rw[<-b3] at V K b2;rw[<-J] at b0 K b2;clear hq q D b3 J;go_wp2;go_ret2;exact⟨by rw[h];rfl,F⟩
         ·have h:=zh (D ⟨by rw[r];exact⟨g3,g4⟩,by rw[O];exact Q,⟨by rw[y];exact a6,by rw[y,r,<-a5,I]⟩,by
           rw[y,r];apply Qc;intro j;rw[Pv];by_cases B:j<c
           ·rw[NH B]
            have b4:=a9 j (by have:=I.out;omega);have b5:j<(fe g f R).length:=by rw[C,I];exact B
            have b6:j<bs.length:=zo;rw[Nr,Nr,Np b5,Np b6] at b4;rw[Np b5,Np b6];exact Of some b4
           ·rw[NB B,OW (by rw[C,I];omega)]⟩)
          clear q D;go_wp2;go_ret2;exact⟨by rw[h,y,r];rfl,F⟩
       ·have e6:((A:Int) !=c)=true:=by simp;omega
        have h:=zh (q (λd=>H (by have:=d.2.2.1.2;rw[y,r] at this;rw[a5];exact this)));clear q D H;go_wp2;go_ret2;exact⟨by rw[h];rfl,F⟩
      ·have e4:(3000:Int)<i:=zo
       have h:=zh (q (λd=>a6 (by have:=d.2.2.1.1;rw[y] at this;exact this)));clear q D;go_wp2;go_ret2;exact⟨by rw[h];rfl,F⟩
     ·have d3:(224:Int)<t:=zo
      have h:=zh (q (λd=>Q (by have:=d.2.1;rw[O] at this;exact this)));clear q D Q;go_wp2;go_ret2;exact⟨by rw[h];rfl,a1⟩
    ·have j7:(1:Int)<c:=zo
     have Z:=b7 j6 a1 (c-1) zo;have a0:=b8 (c-1) zo;obtain⟨X,f0⟩:=zx (bs.getD (c-1) ByteArray.empty);have l1:=zh f0;rw[<-f0] at Z a0;obtain⟨P,n3⟩: ∃P:Nat,(c:Int)-1=P:=⟨c-1,zo⟩;rw[(zo:c-1=P)] at Z;have n4:(P:Int)<bs.length:=zo;have j5:32<=X.size:=zo;have n5:(32:Int)<=X.size:=zo;have f1:=zh (show(X.extract 20 32).size=12 by rw[OD];omega);clear d2 a0 f0;go_wp2_with fail;refine(gV (X.extract 20 32) _ (by rw[f1];decide)).mono ?_;rintro e w7 ⟨f2,rfl,l2,l3,l4⟩;have h0:=zh l3;have l5:=ai a1 l4;have l6:=zh (show w.heap.size<=f2 by have:=a1.size;omega);clear l2 Z;go_wp2_with fail;refine(jG f2 2 _ _ h0 (.inr (.inl rfl)) (by rw[f1];decide) (by rw[f1];decide)).mono ?_;rintro e n6 ⟨rfl,n7,l7⟩;rw[Cc];have h1:=l5.trans ((l7.below (Oc (aa (show w7.heap[f2]?=_ from h0)))).mono l6);have l8:=zh (ua X 16);obtain⟨t,N⟩: ∃t:Nat,jM X 16=t:=⟨(jM X 16).toNat,by have:=l8.out;omega⟩;have O:=zh (show sy bs=t by unfold sy;rw[r,<-l1,N];rfl);rw[N];clear N;by_cases Q:t<=224
     ·have d3: ¬(224:Int)<t:=zo
      obtain⟨S,L⟩:=zx (pf bs c);have d4:S.size=224*c:=by rw[L];exact c8 c zo
      obtain⟨i,T⟩:=zx (224*c-224+t:Nat);have d5:(S.size:Int)-224+t=i:=zo;have j8:i<=S.size:=zo;have y:=zh (show ub bs=S.extract 0 i by unfold ub;rw[r,O,<-L,<-T]);have d6:(S.extract 0 i).size=i:=by rw[OD];omega
      rw[<-L];have j9:i<=1000000:=zo;have d7:=zh T;clear L T;go_wp2_with fail
      (try rw[<-d7])
      obtain⟨R,a2⟩:=zx (S.extract 0 i);rw[<-a2] at y d6⊢;refine(tZ g f R _ h4 h5 zo).mono ?_;rintro e d8 ⟨k0,rfl,d9,e0⟩;have F:=ai h1 e0;have e1:=gC d9 (λx e2=>by rw[iI g f R x e2];decide);have C:=zh (mf g f R);obtain⟨k1,k2,rfl,-,-,a3⟩:=e1;have e3:=zh a3;have a4:=zh (pr (n:=R.size) zo);obtain⟨A,U⟩:=zx (fd R.size);rw[<-U] at C a4;have a5:=zh U;have k3:((fe g f R).length:Int)=A:=by have:=C.out;omega
      rw[C];have k4:(R.size:Int)=i:=zo;clear a3 U a2 d5 d4;by_cases a6:R.size<=3000
      ·have e4: ¬(3000:Int)<i:=zo
       by_cases H:A=c
       ·obtain⟨k5,k6,rfl,_,a7⟩:=e3 (λd=>by have a8:=C.out;have k7:=a4.out;rw[d] at a8;simp at a8;omega)
        have e5:=zh a7;have I:=zh H;have e6:((A:Int) !=c)=false:=by simp[H]
        have k8:(A:Int)<=bs.length:=zo;clear a7 H;go_wp2;go_loopw [87] (λx wr=> ∃k:Nat,k<=A/\x= .int .i64 k/\Qs (∀j,j<k->(fe g f R).getD j ByteArray.empty=bs.getD j ByteArray.empty)/\wr=d8) (λx _=>A-(intOf x).toNat)
        case atStart=>exact⟨0,Nx _,rfl,zh (λj B=>absurd B (Oy _)),rfl⟩
        case round=>
         obtain⟨k,c9,rfl,a9,rfl⟩:=hrel;by_cases M:k<A
         ·have V:=e5 k (by rw[C];exact M)
          have b0:=b7 wr F k zo;have k9:(k:Int)<bs.length:=zo;by_cases hq:(fe g f R).getD k ByteArray.empty=bs.getD k ByteArray.empty
          ·have e7:=zh hq
           rw[hq] at V;obtain⟨W,J⟩:=zx (bs.getD k ByteArray.empty);rw[<-J] at V b0;have K:(W.toList !=W.toList)=false:=zm;clear hq J;go_wp2;go_roundw
           case rel=>exact⟨k+1,M,by go_num,zh (λj B=>by
            by_cases e8:j<k
            ·exact a9 j e8
            ·rw[(zo:j=k)];exact e7),by trivial⟩
           case measure=>simp[intOf];omega
          ·have K:(((fe g f R).getD k ByteArray.empty).toList !=(bs.getD k ByteArray.empty).toList)=true:=by
            simp only[bne_iff_ne,ne_eq];intro d;rw[ByteArray.toList_eq,ByteArray.toList_eq] at d;apply hq;have e9:((fe g f R).getD k ByteArray.empty).data=(bs.getD k ByteArray.empty).data:=Pt.1 d;exact Qg e9
           have h:=zh (q (λd=>hq (by
            have b1:=d.2.2.2;rw[y,r] at b1;rw[b1,Nr,Pv,NH (by have:=I.out;omega),<-Nr])))
           have b2:(((fe g f R).getD k ByteArray.empty).toList==(bs.getD k ByteArray.empty).toList)=false:=by
            rw[bne] at K;simpa using K
           obtain⟨l0,b3⟩:=zx ((fe g f R).getD k ByteArray.empty);obtain⟨W,J⟩:=zx (bs.getD k ByteArray.empty);rw[<-b3] at V K b2;rw[<-J] at b0 K b2;clear hq q D b3 J;go_wp2;go_ret2;exact⟨by rw[h];rfl,F⟩
         ·have h:=zh (D ⟨by rw[r];exact⟨g3,g4⟩,by rw[O];exact Q,⟨by rw[y];exact a6,by rw[y,r,<-a5,I]⟩,by
           rw[y,r];apply Qc;intro j;rw[Pv];by_cases B:j<c
           ·rw[NH B]
            have b4:=a9 j (by have:=I.out;omega);have b5:j<(fe g f R).length:=by rw[C,I];exact B
            have b6:j<bs.length:=zo;rw[Nr,Nr,Np b5,Np b6] at b4;rw[Np b5,Np b6];exact Of some b4
           ·rw[NB B,OW (by rw[C,I];omega)]⟩)
          clear q D;go_wp2;go_ret2;exact⟨by rw[h,y,r];rfl,F⟩
       ·have e6:((A:Int) !=c)=true:=by simp;omega
        have h:=zh (q (λd=>H (by have:=d.2.2.1.2;rw[y,r] at this;rw[a5];exact this)));clear q D H;go_wp2;go_ret2;exact⟨by rw[h];rfl,F⟩
      ·have e4:(3000:Int)<i:=zo
       have h:=zh (q (λd=>a6 (by have:=d.2.2.1.1;rw[y] at this;exact this)));clear q D;go_wp2;go_ret2;exact⟨by rw[h];rfl,F⟩
     ·have d3:(224:Int)<t:=zo
      have h:=zh (q (λd=>Q (by have:=d.2.1;rw[O] at this;exact this)));clear q D Q;go_wp2;go_ret2;exact⟨by rw[h];rfl,h1⟩
 ·have h:=zh (q (λd=>c7 (by have:=d.1;rw[r] at this;exact this)))
  have h2:(c:Int)<1\/(¬(c:Int)<1/\(bs.length:Int)<c):=zo;have h3:=zh c5.bel;clear c7 q D;rcases h2 with h2|⟨n8,n9⟩
  ·go_wp2
   go_ret2;exact⟨by rw[h];rfl,h3⟩
  ·go_wp2
   go_ret2;exact⟨by rw[h];rfl,h3⟩
def Ce(g c:Int)(bs:List Qt):(eQ g c bs).2<=bs.length/\(eQ g c bs).1.size<=3000:=by
 unfold eQ;split
 ·rename_i a;exact⟨a.1.2,a.2.2.1.1⟩
 ·exact⟨Nx _,zd⟩
def pg(g:Int)(out bs:List Qt):List Qt:=
 if h:bs= [] then out else if hr:(eQ g out.length bs).2=0 then out else pg g (out++ [(eQ g out.length bs).1]) (bs.drop (eQ g out.length bs).2)
termination_by bs.length
decreasing_by
 have:0<bs.length:=Ps.2 h;rw[OB];omega
def EZ(g:Int)(out:List Qt):pg g out []=out:=by rw[pg];simp
def sA{g:Int}{out bs:List Qt}(a:(eQ g out.length bs).2=0):pg g out bs=out:=by
 rw[pg];split
 ·rfl
 ·first|rfl|rw[dif_pos a]
def Ik{g:Int}{out bs:List Qt}(a:bs≠ [])(c:(eQ g out.length bs).2≠0):pg g out bs=pg g (out++ [(eQ g out.length bs).1]) (bs.drop (eQ g out.length bs).2):=by
 rw[pg,dif_neg a,dif_neg c]
def kN(d:DV)(frm:Int)(k:Nat):List Qt:=(List.range k).map (λi:Nat=>(d.read (frm+i)).1)
def Cf(d:DV)(frm:Int)(k:Nat):kN d frm (k+1)=kN d frm k++ [(d.read (frm+k)).1]:=by unfold kN;rw[PB,NU];rfl
def mi(d:DV)(frm:Int)(k:Nat):(kN d frm k).length=k:=by simp[kN]
def jN(d:DV)(frm:Int):Nat->Int
 |0=>0
 |k+1=>if jN d frm k≠0 then jN d frm k else(d.read (frm+k)).2
def sB{d:DV}{frm:Int}{k:Nat}(a:jN d frm k≠0): ∀j,jN d frm (k+j)=jN d frm k
 |0=>rfl
 |j+1=>by
  have e:=sB a j;show(if jN d frm (k+j)≠0 then jN d frm (k+j) else _)=_;rw[e,NH a]
def Ef(d:DV)(frm:Int)(n:Nat)(g:Int):List Qt:=if jN d frm n≠0 then [] else pg g [] (kN d frm n)
def Ld(w:Qm)(l:List Qt)(x:Int)(e:Qq)(w':Qm):Prop:= ∃v,e= .returned (.tuple #[v,x])/\Qs (w'.ownsRow w.heap.size 9 1 v l.length (l.map Value.string))/\Qs (Qr w.heap.size w w')
def Jy:Qn->Nat
 | .slice _ n _=>n
 |_=>0
def bq.drop{w:Qm}{b o n c:Nat}{l:List Qt}(x:bq w (.slice (some ⟨b,o,none⟩) n c) l)(k:Nat)(C:k<=l.length)(y:b<w.heap.size):bq w (.slice (some ⟨b,o+k,none⟩) (n-k) (c-k)) (l.drop k):=by
 obtain⟨a,c',d,e,A,f⟩:=x;injection d with d g h
 subst g h;refine⟨_,_,by rw[OB],λs i=>e s (List.mem_of_mem_drop i),⟨by rw[OB];omega,zo⟩,λm=>⟨b,o+k,rfl,y,λj p=>?_⟩⟩;rw[OB] at p;obtain⟨B,o',q,_,r⟩:=f (λt=>m (by rw[t];simp));rw[q] at d;injection d with d;injection d with u v
 subst u v;have:=r (k+j) zo;rw[OU,this];rw[Nr,Nr,OL]
section
variable{w:Qm}{B q c:Nat}{d:DV}
def Cg(frm g:Int)(n:Nat)(h3:Qs (bg w B q c d))(b4:0<g/\g<=18446744073709551615)(b3:1<=n/\n<=4096)(j3: -1000000<=frm/\frm<=1000000)(h4:Qs (∀k,(d.read k).2=0->(d.read k).1.size=256)):
 Qo zP 314 #[q,frm,(n:Int),.int .u64 g] w (Ld w (Ef d frm n g) (jN d frm n)):=by
 obtain⟨b5,b6,b7,b8,b9⟩:=info_parts nn
 have e3:=zh (show(decide (0<g)&&decide (1<=(n:Int))&&decide ((n:Int)<=4096))=true by
  have e4:(1:Int)<=n:=zo;have e5:(n:Int)<=4096:=zo;simp[b4.1,e4,e5])
 have c7:=zh b4;have h5:(n:Int)<=4096:=zo;obtain⟨n1,n2⟩:=b3;clear b4;go_enter func314,ntmps314;go_wp2_with fail;refine zb (ss q n g _) λh6 e6=>?_
 rw[e3];go_wp2;go_loopw [10,23] (λe7 x wr=> ∃k:Nat,k<=n/\x= .int .i64 k/\Qs (jN d frm k=0)/\Qs (wr.ownsRow w.heap.size 9 1 e7 k ((kN d frm k).map Value.string))/\Qs (Qr w.heap.size w wr)/\Qs (∀b∈kN d frm k,b.size=256)) (λ_ x _=>n-(intOf x).toNat)
 case atStart=>exact⟨0,Nx _,rfl,zh rfl,zh zw,e6,zh (by intro b A;simp[kN] at A)⟩
 case round=>
  obtain⟨k,X,rfl,Q,p,Y,Z⟩:=hrel;by_cases e8:k<n
  ·have h7:(k:Int)<4096:=zo
   go_wp2_with fail;refine zb (lU (frm+k) (h3.step Y) (by unfold aQ;omega)) λr t=>?_
   have C:=aS p t;have D:=ai Y t;have a0:=zh (Cf d frm k);have R:=zh (show jN d frm (k+1)=(d.read (frm+k)).2 by show(if jN d frm k≠0 then _ else _)=_;rw[NB (by simpa using Q.out)]);have a1:=zh (h4 (frm+k));obtain⟨b,A⟩:=zx ((d.read (frm+k)).1);obtain⟨x,c8⟩:=zx ((d.read (frm+k)).2);rw[<-A] at a0 a1⊢;rw[<-c8] at R a1⊢;have a2:w.heap.size<=r.heap.size:=D.size;obtain⟨S,E,rfl⟩:=az p;clear A c8;by_cases K:x=0
   ·subst K
    go_wp2_with (at_builtin;refine wpList_append_lies _ rfl (.tmp 37) (.tmp 39) 121 rfl w.heap.size 9 b5 (.string ByteArray.empty) 1 16 underlying121 b6 b7 b8 b9 rfl zd _ k ((kN d frm k).map Value.string) rfl (C.alloc _) ⟨r.heap.size,0,none⟩ 1 1 [.string b] rfl rfl ?c1 ?c2 zd ?c3 ?c4 ?c5 (r.heap.size+1) ?c6 ?_)
    case c1=>exact iA _ _ _
    case c2=>simp[Value.oneCell']
    case c3=>unfold maxLen;omega
    case c4=>omega
    case c5=>simp;omega
    case c6=>simp
    intro L l F M u T a3;have a4:=zh (show F.ownsRow w.heap.size 9 1 (.slice (some ⟨L,0,none⟩) (k+1) l) (k+1) ((kN d frm (k+1)).map Value.string) by rw[a0,NU];exact M);have N:=Below.grown (aL (o:= .cells #[b] 9) D a2) u zu (λj O=>(C.lt j O).1);clear M u T a3;go_wp2;go_roundw
    case rel=>exact⟨k+1,e8,by go_num,R,a4,N,zh (by
     rw[a0];intro y e9;rcases Og.1 e9 with m|m
     ·exact Z y m
     ·rw[Nz.1 m];exact a1 (by trivial))⟩
    case measure=>simp[intOf];omega
   ·have h8:(x !=0)=true:=by simpa using K
    have c9:=zh (show jN d frm n=x by
     have d0:=sB (d:=d) (frm:=frm) (k:=k+1) (by rw[R];exact K) (n-(k+1));rw[(zo:k+1+(n-(k+1))=n)] at d0;rw[d0,R])
    have f0:=zh (show Ef d frm n g= [] by unfold Ef;rw[NH (by rw[c9];exact K)]);clear K;go_wp2;go_ret2;exact⟨_,by rw[c9];rfl,by rw[f0];exact World.ownsRow_nil _ _ _ _,D⟩
  ·have H:k=n:=zo
   have d1:=zh (show jN d frm n=0 by rw[<-H];exact Q);have f1:=zh (show Ef d frm n g=pg g [] (kN d frm n) by unfold Ef;rw[NB (by rw[<-H];simpa using Q.out)]);have d2:=zh (show∀b∈kN d frm n,b.size=256 by rw[<-H];exact Z);obtain⟨S,E,rfl⟩:=az p;have U:wr.ownsRow w.heap.size 9 1 (.slice S n E) n ((kN d frm n).map Value.string):=by have:=p.out;rw[H] at this;exact this
   have f2:=zh (show bq wr (.slice S n E) (kN d frm n) from gC (B:=w.heap.size) (by rw[mi];exact U) (λs f3=>by rw[d2 s f3];decide))
   obtain⟨f,rfl⟩: ∃f,S=some ⟨f,0,none⟩:=by
    rcases U.2 with⟨_,m⟩|⟨f4,h9,i0,m,_⟩
    ·omega
    ·injection m with m _ _;exact⟨f4,m⟩
   have f5:f<wr.heap.size:=(U.lt f rfl).2;have d3:(Value.slice (some ⟨f,0,none⟩) k E)= .slice (some ⟨f,0,none⟩) n E:=by rw[H]
   rw[d3];clear H d3 U p Q Z;go_wp2;go_loopw [10,11] (λf6 d4 V=> ∃(rest out:List Qt) (off l:Nat),f6= .slice (some ⟨f,off,none⟩) rest.length l/\Qs (bq V (.slice (some ⟨f,off,none⟩) rest.length l) rest)/\Qs (V.ownsRow w.heap.size 9 1 d4 out.length (out.map Value.string))/\Qs (pg g out rest=Ef d frm n g)/\Qs (out.length+rest.length<=n)/\Qs (∀b∈rest,b.size=256)/\Qs (Qr w.heap.size w V)/\Qs (f<V.heap.size)/\Qs (d4.ownBlock≠some f)) (λv _ _=>Jy v)
   case atStart=>exact⟨kN d frm n,[],0,E,by rw[mi],zh (by rw[mi];exact f2),zh zw,zh f1.symm,zh (by rw[mi];simp),d2,Y,zh f5,zh (by simp[Value.ownBlock])⟩
   case round=>
    obtain⟨rest,out,off,l,rfl,a5,p,a6,a7,d5,D,f7,d6⟩:=hrel;by_cases I:rest= []
    ·have a8:=zh (show Ef d frm n g=out by rw[<-a6,I];exact EZ _ _)
     have i1:rest.length=0:=by rw[I];rfl
     have i2: ¬(0:Int)<rest.length:=zo;clear I;go_wp2;go_ret2;exact⟨_,by rw[d1];rfl,by rw[a8];exact p,D⟩
    ·have i3:0<rest.length:=Ps.2 I
     have i4:(0:Int)<rest.length:=zo;have f8:=zh I;obtain⟨i5,c1,rfl⟩:=az p;have d7:=zh (Ce g out.length rest);obtain⟨J,h,a9⟩: ∃a b,eQ g out.length rest=(a,b):=⟨_,_,rfl⟩;rw[a9] at d7;have W:=zh a9;have i6:(out.length:Int)<=4096:=by have:=a7.out;omega
     have i7:(rest.length:Int)<=l:=by
      obtain⟨_,_,i,_,b0,_⟩:=a5.out;injection i with _ i d8
      omega
     clear I a9;go_wp2_with fail;have b1:=Cd g out.length (.slice (some ⟨f,off,none⟩) rest.length l) rest wr ⟨by have:=c7.out;omega,c7.2⟩ ⟨zo,zo⟩ a5 (λk X=>d5 _ (by rw[Nr,Np X];exact NT X)) ⟨zo,by have:=a7.out;omega⟩;rw[W] at b1;refine b1.mono ?_;rintro e r ⟨rfl,t⟩;have C:=aS p t;have N:=ai D t;have d9:=a5.below t;have P:=zh (show f<r.heap.size by have:=f7.out;have:=t.size;omega);have a2:w.heap.size<=r.heap.size:=N.size;have f9:h<=rest.length:=d7.1;clear t b1;by_cases b2:h=0
     ·subst b2
      have a8:=zh (show Ef d frm n g=out by rw[<-a6];exact sA (by rw[W]));go_wp2;go_ret2;exact⟨_,by rw[d1];rfl,by rw[a8];exact C,N⟩
     ·have i8:((h:Int)==0)=false:=by simp;omega
      have g0:=zh (show pg g (out++ [J]) (rest.drop h)=Ef d frm n g by rw[<-a6,Ik f8 (by rw[W];exact b2),W]);have i9:(h:Int)<=l:=zo;have j0:(h:Int)<=rest.length:=zo;have j1:0<h:=zo;clear b2;go_wp2_with (at_builtin;refine wpList_append_lies _ rfl (.tmp 55) (.tmp 57) 121 rfl w.heap.size 9 b5 (.string ByteArray.empty) 1 16 underlying121 b6 b7 b8 b9 rfl zd _ out.length (out.map Value.string) rfl (C.alloc _) ⟨r.heap.size,0,none⟩ 1 1 [.string J] rfl rfl ?c1 ?c2 zd ?c3 ?c4 ?c5 (r.heap.size+1) ?c6 ?_)
      case c1=>exact iA _ _ _
      case c2=>simp[Value.oneCell']
      case c3=>unfold maxLen;omega
      case c4=>omega
      case c5=>simp;omega
      case c6=>simp
      intro L e0 F M u T a3;have a4:=zh (show F.ownsRow w.heap.size 9 1 (.slice (some ⟨L,0,none⟩) (out.length+1) e0) (out++ [J]).length ((out++ [J]).map Value.string) by rw[NU,Nw];exact M);have g1:=Below.grown (aL (o:= .cells #[J] 9) N a2) u zu (λj O=>(C.lt j O).1)
      have g2:=zh (show bq F (.slice (some ⟨f,if l=h then off else off+h,none⟩) (rest.drop h).length (l-h)) (rest.drop h) by
       by_cases g3:l=h
       ·have g4:rest.drop h= []:=Px zo
        rw[g4];exact⟨_,_,rfl,zm,⟨zm,by have:=d9;obtain⟨_,_,i,_,b0,_⟩:=this;injection i with _ _ i;omega⟩,λm=>absurd rfl m⟩
       rw[NB g3,OB]
       have g5:F.heap[f]?=r.heap[f]?:=by
        rw[u.block f (by simp;have:=P.out;omega) (λe=>d6 e.symm),Oz _ _ _ P]
       have g6:=d9.drop h f9 P;obtain⟨g7,c',i,d8,b0,g8⟩:=g6;refine⟨g7,c',i,d8,b0,λb3=>?_⟩;obtain⟨e1,o',e2,j2,g9⟩:=g8 b3;have h0:e1=f:=by rw[e2] at i;injection i with i _ _;injection i with i;injection i with i _;exact i.symm
       subst h0;exact⟨e1,o',e2,by have:=u.size;simp at this;omega,λj O=>(World.cell?_of_block g5).trans (g9 j O)⟩)
      have h1:=zh (show f<F.heap.size by have:=u.size;simp at this;have:=P.out;omega)
      have h2:=zh (show(Value.slice (some ⟨L,0,none⟩) (out.length+1) e0).ownBlock≠some f by
       intro e;have e:L=f:=by simpa[Value.ownBlock] using e
       rcases T with m|m
       ·exact d6 (by rw[m,e])
       ·have:=P.out;omega)
      clear M u T a3;go_wp2;go_roundw
      case rel=>exact⟨rest.drop h,out++ [J],if l=h then off else off+h,l-h,by rw[OB];split<;>rfl,g2,a4,g0,zh (by rw[Nw,OB];have:=a7.out;simp;omega),zh (λb A=>d5 b (List.mem_of_mem_drop A)),g1,h1,h2⟩
      case measure=>simp[Jy];omega
end
structure ah where
 name:Qt
 every:Int
 keep:Int
 shards:Int
def ah.cells(t:ah):List Qn:= [.string t.name,.int .i64 t.every,.int .i64 t.keep,.int .i64 t.shards]
def ah.ok(t:ah):Prop:=t.name.size<=9223372036854775807/\aQ t.every/\aQ t.keep/\aQ t.shards
def ah.zero:ah:=⟨ByteArray.empty,0,0,0⟩
def aH(w:Qm)(v:Qn)(l:List ah):Prop:=
 ∃a c,v= .slice a l.length c/\(∀x∈l,x.ok)/\(l.length<=c/\c<=9223372036854775807)/\
  (l≠ []-> ∃b o,a=some ⟨b,o,none⟩/\b<w.heap.size/\ ∀j,j<l.length->(w.cell? ⟨b,o+j*4,none⟩=some (.string (l.getD j ah.zero).name)/\w.cell? ⟨b,o+j*4+1,none⟩=some (.int .i64 (l.getD j ah.zero).every)/\
   w.cell? ⟨b,o+j*4+2,none⟩=some (.int .i64 (l.getD j ah.zero).keep)/\w.cell? ⟨b,o+j*4+3,none⟩=some (.int .i64 (l.getD j ah.zero).shards)))
def aH.below{w w':Qm}{v:Qn}{l:List ah}(u:aH w v l)(e:Qr w.heap.size w w'):aH w' v l:=by
 obtain⟨a,c,f,g,h,i⟩:=u;refine⟨a,c,f,g,h,λk=>?_⟩;obtain⟨b,o,m,d,n⟩:=i k;refine⟨b,o,m,No d e.size,λj q=>?_⟩;obtain⟨c0,r,s,t⟩:=n j q;exact⟨(e.cell (p:=⟨b,_,none⟩) d).trans c0,(e.cell (p:=⟨b,_,none⟩) d).trans r,(e.cell (p:=⟨b,_,none⟩) d).trans s,(e.cell (p:=⟨b,_,none⟩) d).trans t⟩
def aH.ok{w:Qm}{v:Qn}{l:List ah}(a:aH w v l): ∀x∈l,x.ok:=by obtain⟨_,_,_,a,_⟩:=a;exact a
def gw(l:List ah):List Qn:=l.flatMap ah.cells
def nr: ∀l:List ah,(gw l).length=l.length*4
 | []=>rfl
 |t::l=>by simp only[gw,NZ,Nw,NW];rw[show(l.flatMap ah.cells).length=l.length*4 from nr l];simp[ah.cells];omega
def qv: ∀(l:List ah) (j:Nat),j<l.length->(gw l)[j*4]?=some (.string (l.getD j ah.zero).name)/\(gw l)[j*4+1]?=some (.int .i64 (l.getD j ah.zero).every)/\(gw l)[j*4+2]?=some (.int .i64 (l.getD j ah.zero).keep)/\(gw l)[j*4+3]?=some (.int .i64 (l.getD j ah.zero).shards)
 | [],j,a=>absurd a (Oy _)
 |t::l,0,_=>⟨rfl,rfl,rfl,rfl⟩
 |t::l,j+1,a=>by
  have c:(t.cells).length=4:=rfl;have:=qv l j (by simpa using a)
  have e: ∀k,(gw (t::l))[(j+1)*4+k]?=(gw l)[j*4+k]?:=λk=>by
   show(t.cells++gw l)[(j+1)*4+k]?=_;rw[OE (by rw[c];omega),c];congr 1;omega
  have d:=e 0;simp only[NR] at d;rw[d,e 1,e 2,e 3];simpa using this
def Ci{l:List ah}: ∀u∈gw l,u.oneCell'=true:=by
 intro u a;simp only[gw,List.mem_flatMap] at a;obtain⟨t,_,a⟩:=a;simp only[ah.cells,NL,NJ,Ou] at a;rcases a with rfl|rfl|rfl|rfl<;>rfl
def aH.flat{w:Qm}{a:Option Addr}{l:List ah}{n c:Nat}(v:aH w (.slice a n c) l)(x:l≠ []): ∃b o,a=some ⟨b,o,none⟩/\b<w.heap.size/\ ∀j u,(gw l)[j]?=some u->w.cell? ((⟨b,o,none⟩:Addr).add j)=some u:=by
 obtain⟨y,c',f,A,B,g⟩:=v;obtain⟨b,o,rfl,h,i⟩:=g x;injection f with f
 refine⟨b,o,f,h,λj u d=>?_⟩;rw[pK];have C:j<l.length*4:=by rw[<-nr];exact(Ny.1 d).1
 obtain⟨c0,k,m,p⟩:=i (j/4) zo;obtain⟨q,r,s,t⟩:=qv l (j/4) zo;have e:j%4=0\/j%4=1\/j%4=2\/j%4=3:=zo;rcases e with e|e|e|e
 ·rw[(zo:j=j/4*4)] at d⊢;rw[c0,<-d,<-q]
 ·rw[(zo:j=j/4*4+1)] at d⊢;rw[<-OU,<-d];rw[k,r]
 ·rw[(zo:j=j/4*4+2)] at d⊢;rw[<-OU,<-d];rw[m,s]
 ·rw[(zo:j=j/4*4+3)] at d⊢;rw[<-OU,<-d];rw[p,t]
def gD{w:Qm}{B:Nat}{v:Qn}{l:List ah}(a:w.ownsRow B 116 4 v l.length (gw l))(i: ∀x∈l,x.ok):aH w v l:=by
 have f:=a;rcases a.2 with⟨d,h⟩|⟨g,cap,q,d,_,_,h,k,_,_⟩
 ·subst d
  obtain rfl:=NI h;exact⟨none,0,rfl,i,zm,λa=>absurd rfl a⟩
 ·subst d
  refine⟨_,cap,rfl,i,⟨zo,by unfold maxLen at k;omega⟩,λ_=>⟨g,0,rfl,(f.lt g rfl).2,λj e=>?_⟩⟩;have c:=λj e=>f.cellAt j e
  obtain⟨m,n,o,p⟩:=qv l j e;refine⟨?_,?_,?_,?_⟩
  ·have:=c (j*4) zo;rw[Ok,this];exact m
  ·have:=c (j*4+1) zo;rw[Ok,this];exact n
  ·have:=c (j*4+2) zo;rw[Ok,this];exact o
  ·have:=c (j*4+3) zo;rw[Ok,this];exact p
def iX(B:Nat)(v:Qn):Prop:= ∀b o s n c,v= .slice (some ⟨b,o,s⟩) n c->B<=b
def AF(B:Nat):iX B (.slice none 0 0):=by intro b o s n c a;cases a
def cP{w:Qm}{B n k:Nat}{e:Qp}{v:Qn}{i:List Qn}(j:w.ownsRow B e k v n i):iX B v:=by
 intro b o s m c f;rcases j.2 with⟨a,h⟩|⟨g,cap,l,a,h,_⟩
 ·rw[f] at a;cases a
 ·rw[f] at a
  injection a with d;injection d with d;injection d with d
  omega
def iX.mono{B a:Nat}{v:Qn}(d:iX B v)(f:a<=B):iX a v:=λb o s n c e=>Nq f (d b o s n c e)
def aH.frame{w w':Qm}{v:Qn}{l:List ah}{B:Nat}(q:aH w v l)(r:iX B v)(t:w.heap.size<=w'.heap.size)(s: ∀k,B<=k->k<w.heap.size->w'.heap[k]?=w.heap[k]?):aH w' v l:=by
 obtain⟨a,c,rfl,d,e,f⟩:=q;refine⟨a,c,rfl,d,e,λg=>?_⟩;obtain⟨b,o,rfl,h,i⟩:=f g;have m:=r b o none _ _ rfl;have n: ∀o',w'.cell? ⟨b,o',none⟩=w.cell? ⟨b,o',none⟩:=λo'=>by unfold World.cell?;rw[s b m h]
 refine⟨b,o,rfl,zo,λj p=>?_⟩;simp only[n];exact i j p
def xY{w w':Qm}{v:Qn}{l:List Int}{B:Nat}(q:aE w v l)(r:iX B v)(t:w.heap.size<=w'.heap.size)(s: ∀k,B<=k->k<w.heap.size->w'.heap[k]?=w.heap[k]?):aE w' v l:=by
 obtain⟨a,c,rfl,d,e,f⟩:=q;refine⟨a,c,rfl,d,e,λg=>?_⟩;obtain⟨b,o,rfl,h,i⟩:=f g;have m:=r b o none _ _ rfl;have n: ∀o',w'.cell? ⟨b,o',none⟩=w.cell? ⟨b,o',none⟩:=λo'=>by unfold World.cell?;rw[s b m h]
 refine⟨b,o,rfl,zo,λj p=>?_⟩;rw[n];exact i j p
def nt:(zP.info? 116).map (λi=>(i.zero,i.size,i.bytes))=some (some (.agg #[ByteArray.empty,(),(),()]),4,40):=zk
def vJ(v:Qn)(l:List ah)(w:Qm)(r:aH w v l)(T:l.length<=1000000):
 Qo zP 205 #[v] w (λs w'=> ∃u,s= .returned u/\Qs (aH w' u l)/\Qs (iX w.heap.size u)/\Qs (Qr w.heap.size w w')):=by
 obtain⟨t,x,y,A,B⟩:=info_parts nt;have f:=r;obtain⟨a,C,rfl,m,D,d⟩:=r;have E:=zh m;clear m d;have P: ∀(w:Qm) (a:Option Addr) (n c n' c':Nat),(binOp .eql 30 (.slice a n c) (.slice none n' c')).run zP w= .ok (.bool a.isNone) w:=λw a n c n' c'=>Lib.run_eql_slice_nil w _ _ a n c n' c' underlying30
 have Q: ∀w,Sem.run zP (underlying 30) w= .ok (TypeDesc.slice 116) w:=run_underlying underlying30;cases a with
 |none=>
  have g:l= []:=by
   by_cases h:l= []
   ·exact h
   ·obtain⟨_,_,e,_⟩:=f.flat h;cases e
  subst g;clear D;go_enter func205,ntmps205;go_wp2_with fail;go_ret;exact⟨_,rfl,⟨none,0,rfl,zm,zm,λh=>absurd rfl h⟩,AF _,ND _ _⟩
 |some a=>
  have d: ∀j u,(gw l)[j]?=some u->w.cell? (a.add j)=some u:=by
   by_cases g:l= []
   ·subst g;intro j u F;simp[gw] at F
   ·obtain⟨b,o,e,R,d⟩:=f.flat g
    injection e with e
    subst e;exact d
  have H:=zh d;have S:=zh f;clear d f;go_enter func205,ntmps205;go_wp2_with (at_builtin;refine wpList_append_own _ rfl _ _ 30 rfl w.heap.size 116 t (.agg #[ByteArray.empty,(),(),()]) 4 40 underlying30 x y A B rfl zd _ _ _ rfl (World.ownsRow_made w #[] 0 zl zp rfl) a l.length C (gw l) rfl ?qc1 ?qc2 ?qc3 ?qc4 ?qc5 ?qc6 ?_)
  case qc1=>exact nr l
  case qc2=>
   intro j u I;exact Lib.cell?_alloc_some _ (H j u I)
  case qc3=>exact Ci
  case qc4=>unfold maxLen;omega
  case qc5=>omega
  case qc6=>simp
  intro v' J i p K;have q:=gD (by simpa using i) E;have L:=zh q;have M:=zh (cP i);have N:=zh (show Qr w.heap.size w J from((ND _ w).alloc zl _).grown p zm (by intro k O;simp[Value.ownBlock] at O;omega));clear i p K q;go_wp2;go_ret;exact⟨v',rfl,L,M,N⟩
def gk{w:Qm}{B:Nat}{v:Qn}{l:List Int}(e:w.ownsRow B 3 1 v l.length (l.map (Value.int .i64)))(i: ∀x∈l,-9223372036854775808<=x/\x<=9223372036854775807):aE w v l:=by
 have c:=e;rcases e.2 with⟨a,d⟩|⟨g,cap,k,a,_,_,d,f,_,_⟩
 ·subst a
  obtain rfl:=NI d;exact fg _
 ·subst a
  refine⟨_,cap,rfl,i,⟨zo,by unfold maxLen at f;omega⟩,λ_=>⟨g,0,rfl,(c.lt g rfl).2,λj h=>?_⟩⟩;have:=c.cellAt j zo;rw[Ok,this];simp[h]
def aE.ok{w:Qm}{v:Qn}{l:List Int}(a:aE w v l): ∀x∈l,-9223372036854775808<=x/\x<=9223372036854775807:=by obtain⟨_,_,_,a,_⟩:=a;exact a
def lu(v:Qn)(l:List Int)(w:Qm)(h:aE w v l)(r:l.length<=1000000):
 Qo zP 136 #[v] w (λi w'=> ∃u,i= .returned u/\Qs (aE w' u l)/\Qs (iX w.heap.size u)/\Qs (Qr w.heap.size w w')):=by
 have j:=h.ok;obtain⟨a,k,rfl,_,p,m⟩:=h;by_cases f:l= []
 ·subst f
  cases a with
  |none=>
   refine(slices_Clone_int_nil _ _ w).mono ?_;rintro e g ⟨rfl,rfl⟩;exact⟨_,rfl,fg _,AF _,ND _ _⟩
  |some a=>
   refine(slices_Clone_int_zero _ _ w).mono ?_;rintro e g ⟨u,rfl,c,_,d⟩;exact⟨_,rfl,gk c zm,cP c,d⟩
 ·obtain⟨b,o,rfl,q,n⟩:=m f
  refine(slices_Clone_int b o l.length k l w zl zo n).mono ?_;rintro e g ⟨u,rfl,c,_,d⟩;rw[OA] at c;exact⟨_,rfl,gk c j,cP c,d⟩
def bl{w a:Qm}{c:Obj}(d:Qr (w.alloc c).heap.size (w.alloc c) a):a.heap[w.heap.size]?=some c/\Qr w.heap.size w a:=
 ⟨ab (ag rfl) d,ai ze d⟩
def gE{w a:Qm}{c d:Obj}(e:Qr ((w.alloc c).alloc d).heap.size ((w.alloc c).alloc d) a):a.heap[w.heap.size]?=some c/\a.heap[w.heap.size+1]?=some d/\Qr w.heap.size w a:=
 ⟨ab (ab (ag rfl) ze) e,ab (ag zm) e,ai (ai ze ze) e⟩
def bE{w:Qm}{b:Nat}{T:Qp}{a c:Qn}(d:w.heap[b]?=some (.cells #[a,c] T)):w.cell? ⟨b,0,none⟩=some a/\w.cell? ⟨b,1,none⟩=some c:=by
 constructor<;>(rw[NA w b _ _ _ _ d];rfl)
def aW{w:Qm}{b:Nat}{T:Qp}{a c d:Qn}(e:w.heap[b]?=some (.cells #[a,c,d] T)):w.cell? ⟨b,0,none⟩=some a/\w.cell? ⟨b,1,none⟩=some c/\w.cell? ⟨b,2,none⟩=some d:=by
 refine⟨?_,?_,?_⟩<;>(rw[NA w b _ _ _ _ e];rfl)
def fG{w:Qm}{b:Nat}{T:Qp}{a c d e:Qn}(f:w.heap[b]?=some (.cells #[a,c,d,e] T)):w.cell? ⟨b,0,none⟩=some a/\w.cell? ⟨b,1,none⟩=some c/\w.cell? ⟨b,2,none⟩=some d/\w.cell? ⟨b,3,none⟩=some e:=by
 refine⟨?_,?_,?_,?_⟩<;>(rw[NA w b _ _ _ _ f];rfl)
def ie(w:Qm)(v:Qn)(name:Qt)(l:List ah):Prop:= ∃a,v= .agg #[name,a]/\aH w a l
structure RV where
 now:Int
 name:Qt
 l:List ah
 fl:List Int
def cu(w:Qm)(v:Qn)(r:RV):Prop:= ∃a c,v= .agg #[(r.now:Int),r.name,a,c]/\aH w a r.l/\aE w c r.fl
def ie.below{w w':Qm}{v:Qn}{n:Qt}{l:List ah}(e:ie w v n l)(f:Qr w.heap.size w w'):ie w' v n l:=by
 obtain⟨a,c,d⟩:=e;exact⟨a,c,d.below f⟩
def cu.below{w w':Qm}{v:Qn}{r:RV}(h:cu w v r)(a:Qr w.heap.size w w'):cu w' v r:=by
 obtain⟨c,d,e,f,g⟩:=h;exact⟨c,d,e,f.below a,g.below a⟩
def dD(B:Nat)(w:Qm)(v:Qn)(r:RV):Prop:= ∃a c,v= .agg #[(r.now:Int),r.name,a,c]/\aH w a r.l/\aE w c r.fl/\iX B a/\iX B c
def dD.below{B:Nat}{w w':Qm}{v:Qn}{r:RV}(i:dD B w v r)(a:Qr w.heap.size w w'):dD B w' v r:=by
 obtain⟨c,d,e,f,g,h⟩:=i;exact⟨c,d,e,f.below a,g.below a,h⟩
def Ke(w:Qm)(p:Qn->Qm->Prop)(e:Qq)(w':Qm):Prop:= ∃u,e= .returned u/\p u w'/\Qs (Qr w.heap.size w w')
def jO(v:Qn)(n:Qt)(l:List ah)(w:Qm)(D:ie w v n l)(E:l.length<=1000000):
 Qo zP 135 #[v] w (Ke w (λu w'=> ∃f,u= .agg #[n,f]/\aH w' f l/\iX w.heap.size f)):=by
 obtain⟨f,rfl,h⟩:=D;have s:=zh h;obtain⟨a,c,rfl,_⟩:=h;go_enter func135,ntmps135;go_wp2_with fail;refine(vJ _ l _ ((s.below ze).below ze) E).mono ?_;rintro e F ⟨u,rfl,i,j,m⟩;have t:=zh m.size;have x:=zh i;obtain⟨p,q,rfl,_⟩:=i;obtain⟨g,d,r⟩:=gE m;have y:=zh r;obtain⟨c0,H⟩:=bE g;obtain⟨I,J⟩:=bE d;have K:=ad (o:=1) g;have L:=ad (o:=0) d;have M:=ad (o:=1) d;have A:=zh d;clear r g d;go_wp2;have B:=t.out;simp only[Pl] at B;refine NG (v:= .agg #[n,.slice p l.length q]) (results_cell_row results135 _ _ (w.heap.size+1) 32 #[n,.slice p l.length q] (0,0) _ rfl (al (al ((af _ zm).trans A) _) _) underlying32 rfl zk) rfl ?_;refine⟨_,rfl,⟨_,rfl,x.frame j zm (λk C _=>?_),j.mono zu⟩,ao (ao (ao y zl) zm) zm⟩;simp only[Pl] at C;rw[af _ (by dsimp only;omega),af _ (by dsimp only;omega),af _ (by dsimp only;omega)]
def AG(v E:Qn)(now:Int)(n:Qt)(l:List ah)(f:List Int)(w:Qm)(S:ie w v n l)(F:aE w E f)(T:l.length<=1000000)(U:f.length<=1000000):
 Qo zP 78 #[v,now,E] w (Ke w (λu w'=>dD w.heap.size w' u ⟨now,n,l,f⟩)):=by
 obtain⟨H,rfl,r⟩:=S;have I:=zh r;have J:=zh F;obtain⟨a,c,rfl,_⟩:=r;obtain⟨V,W,rfl,_⟩:=F;go_enter func78,ntmps78;go_wp2_with fail;refine(jO _ n l _ ⟨_,rfl,(I.below ze).below ze⟩ T).mono ?_;rintro e X ⟨u,rfl,⟨H,rfl,g,s⟩,t⟩;have x:=zh s;have K:=zh g;obtain⟨i,j,rfl,_⟩:=g;obtain⟨L,d,y⟩:=gE t;have A:=zh y;have M:=zh d;clear y s L d;go_wp2_with fail;refine(lu _ f _ (J.below A) U).mono ?_;rintro e B ⟨u,rfl,g,C,h⟩;have N:=zh g;obtain⟨m,p,rfl,_⟩:=g;have d:=ab M h;have O:=ai A h;have P:=K.below h;have Q:=t.size;simp only[Pl] at Q;have Y:=h.size;have R:=zh d;obtain⟨Z,a0,a1,a2⟩:=fG d;have a3:=ad (o:=0) d;have a4:=ad (o:=1) d;have a5:=ad (o:=2) d;have a6:=ad (o:=3) d;clear d;go_wp2;refine NG (v:= .agg #[now,n,.slice i l.length j,.slice m f.length p]) (results_cell_row results78 _ _ (w.heap.size+1) 46 #[now,n,.slice i l.length j,.slice m f.length p] (0,0) _ rfl (al (al (al (al R _) _) _) _) underlying46 rfl zk) rfl ?_
 have D: ∀(k:Nat),w.heap.size+2<=k->((((B.setCell ⟨w.heap.size+1,0,none⟩ (.int .i64 now)).setCell ⟨w.heap.size+1,1,none⟩ (.string n)).setCell ⟨w.heap.size+1,2,none⟩ (.slice i l.length j)).setCell ⟨w.heap.size+1,3,none⟩ (.slice m f.length p)).heap[k]?=B.heap[k]?:=λk q=>by
  rw[af _ (by dsimp only;omega),af _ (by dsimp only;omega),af _ (by dsimp only;omega),af _ (by dsimp only;omega)]
 refine⟨_,rfl,⟨_,_,rfl,P.frame x zm (λk q _=>D k (by simp only[Pl] at q;omega)),xY N C zm (λk q _=>D k zo),x.mono zu,C.mono zo⟩,ao (ao (ao (ao O zm) zm) zm) zm⟩
def RV.is(r:RV)(k:Int):Bool:=decide (0<=k/\k<r.l.length)
def RV.low(r:RV)(k:Nat):Int:=dL r.now (r.l.getD k ah.zero).keep (r.l.getD (min (k+1) (r.l.length-1)) ah.zero).every
def RV.fromN(r:RV)(k:Nat):Int:=if k<r.fl.length then max (r.low k) (r.fl.getD k 0) else r.low k
def RV.from(r:RV)(k:Int):Int:=if r.is k then r.fromN k.toNat else 0
def RV.from_nat(r:RV)(k:Nat)(a:k<r.l.length):r.from k=r.fromN k:=by
 unfold RV.from RV.is;rw[NH zu];rfl
def jP(v:Qn)(r:RV)(k:Int)(w:Qm)(f:cu w v r)(n:aQ k):
 Qo zP 33 #[v,k] w (aK w (.bool (r.is k))):=by
 obtain⟨g,h,rfl,d,e⟩:=f;obtain⟨a,c,rfl,_,i,_⟩:=d;obtain⟨j,l,rfl,_⟩:=e;by_cases m:0<=k
 ·go_enter func33,ntmps33
  go_wp2_with fail;go_ret;exact⟨bu (by unfold RV.is;simp;omega),ak _ _⟩
 ·go_enter func33,ntmps33
  go_wp2_with fail;go_ret;exact⟨bu (by unfold RV.is;simp;omega),ak _ _⟩
def kq(t k e:Int)(c:aQ t)(d:aQ k)(a:aQ e):aQ (dL t k e):=by
 unfold aQ at*;unfold dL;split
 ·omega
 ·have:=gU (t-k) e zo a.2
  omega
def cH(v:Qn)(r:RV)(k:Int)(w:Qm)(a6:cu w v r)(a7:aQ r.now)(a8:aQ k):
 Qo zP 13 #[v,k] w (aK w (.int .i64 (r.from k))):=by
 have C:=a6;obtain⟨c6,c7,rfl,a9,h⟩:=a6;obtain⟨a,c,rfl,D,c8,E⟩:=a9;obtain⟨b0,b1,rfl,F,c9,H⟩:=h;have I:=zh C;have b2:=zh E;have b3:=zh H;have J:=zh D;have d0:=zh F;have K:=zh a7;have L:=zh a8;clear E H D F C;unfold aQ at a7 a8;by_cases f:r.is k=true
 ·have N:0<=k/\k<r.l.length:=by unfold RV.is at f;simpa using f
  have m:=zh f;obtain⟨d,rfl⟩: ∃d:Nat,k=d:=⟨k.toNat,zo⟩;obtain⟨M,O⟩:=zx (min (d+1) (r.l.length-1):Nat);obtain⟨P,b4⟩:=zx (d+1:Nat);obtain⟨Q,b5⟩:=zx (r.l.length-1:Nat);have d1:IntKind.i64.wrap ((d:Int)+1)=P:=by rw[IntKind.wrap_i64];omega
  have d2:IntKind.i64.wrap ((r.l.length:Int)-1)=Q:=by rw[IntKind.wrap_i64];omega
  have d3:min (P:Int) (Q:Int)=(M:Int):=zo;have R:M<r.l.length:=zo;obtain⟨b,o,rfl,i,n⟩:=b2 (by intro g;rw[g] at N;simp at N;omega);obtain⟨_,_,S,_⟩:=n d zo;obtain⟨_,T,_,_⟩:=n M R
  have j:=zh (show r.from d=if d<r.fl.length then max (dL r.now (r.l.getD d ah.zero).keep (r.l.getD M ah.zero).every) (r.fl.getD d 0) else dL r.now (r.l.getD d ah.zero).keep (r.l.getD M ah.zero).every by
   rw[r.from_nat d zo];unfold RV.fromN RV.low;rw[<-O])
  have U:=J (r.l.getD d ah.zero) (by rw[Nr,Np (zo:d<r.l.length)];exact NT _);have V:=J (r.l.getD M ah.zero) (by rw[Nr,Np R];exact NT _);obtain⟨q,s⟩:=zx ((r.l.getD d ah.zero).keep);obtain⟨ev,t⟩:=zx ((r.l.getD M ah.zero).every);have W:=zh (show aQ q by rw[s];exact U.2.2.1);have X:=zh (show aQ ev by rw[t];exact V.2.1);rw[<-s] at S j;rw[<-t] at T j;have Y:b<w.heap.size:=i;clear s t U V n O f b4 b5;go_enter func13,ntmps13;go_wp2_with fail;refine zb (jP _ r d _ (I.below ze) L) λu x=>?_
  rw[m];obtain⟨f,l⟩:=bl x;obtain⟨c0,b6,b7,Z⟩:=fG f;have b8:=(l.cell (p:=⟨b,_,none⟩) Y).trans S;have b9:=(l.cell (p:=⟨b,_,none⟩) Y).trans T;have y:=zh l;clear l f;go_wp2_with fail;have c1:=zh (kq _ _ _ K W X);obtain⟨G,a0⟩:=zy (dL r.now q ev);rw[<-a0] at c1 j;refine zI (λw'=>Qr w.heap.size w w'/\w'.cell? ⟨w.heap.size,0,none⟩=some (.int .i64 r.now)/\w'.cell? ⟨w.heap.size,3,none⟩=some (.slice b0 r.fl.length b1)/\w'.cell? ⟨b,o+d*4+2,none⟩=some (.int .i64 q)/\w'.cell? ⟨b,o+M*4+1,none⟩=some (.int .i64 ev)) 19 (zL [?_,?_,?_,?_,?_,?_,?_,?_,?_,?_,?_,?_,?_,?_,?_,?_,?_,?_,?_]) (λu a1 g i=>⟨ai g.1 i,ae g.2.1 i,ae g.2.2.1 i,ae g.2.2.2.1 i,ae g.2.2.2.2 i⟩) (⟨y.drew,c0,Z,b8,b9⟩) ?_;rotate_right
  iterate 17
   refine zW ?_
  refine aw zk rfl rfl ?_ ?_
  ·intro u A a2 d c2;(try dsimp only at A);go_simp;refine(El _ _ _ _ K W X).mono ?_;rintro e a1 ⟨rfl,rfl⟩;rw[<-a0];exact c2.out _ _ zz zr
  refine zW ?_;refine zD λa1 A a2=>?_
  obtain⟨a3,_,d4,_,_⟩:=A;have B:=zh a3;clear a3 a2 c0 b6 b7 Z;by_cases h:d<r.fl.length
  ·obtain⟨c3,d5,rfl,c4,a4⟩:=b3 (by intro g;rw[g] at h;simp at h)
   have z:=(B.cell (p:=⟨c3,_,none⟩) c4).trans (a4 d h);obtain⟨d6,a5⟩:=zx (r.fl.getD d 0);rw[<-a5] at z j;clear a4 a5;go_wp2_with fail;go_ret;exact⟨bp (by rw[j,NH h]),B⟩
  ·go_wp2_with fail
   go_ret;exact⟨bp (by rw[j,NB h]),B⟩
 ·have m:=zh (show r.is k=false by simpa using f)
  have c5:=zh (show r.from k=0 by unfold RV.from;rw[NB f]);clear f;go_enter func13,ntmps13;go_wp2_with fail;refine zb (jP _ r k _ (I.below ze) L) λu x=>?_
  rw[m];have y:=ai ze x;go_wp2_with fail;go_ret;exact⟨bp c5.symm,y⟩
def RV.start(r:RV)(k t:Int):Int×Bool:=if r.is k=true/\0<=t then(bR t (r.l.getD k.toNat ah.zero).every,decide (r.from k<=bR t (r.l.getD k.toNat ah.zero).every)) else(0,false)
def kr{w:Qm}{v:Qn}{l:List ah}(a:aH w v l)(k:Nat)(c:k<l.length):(l.getD k ah.zero).ok:=by
 refine a.ok _ ?_;rw[Nr,Np c];exact NT _
def Kf{w:Qm}{v:Qn}{l:List Int}(a:aE w v l)(k:Nat)(c:k<l.length):aQ (l.getD k 0):=by
 refine a.ok _ ?_;rw[Nr,Np c];exact NT _
def RV.from_I64{w:Qm}{v:Qn}{r:RV}(f:cu w v r)(g:aQ r.now)(k:Int):aQ (r.from k):=by
 obtain⟨h,i,_,a,d⟩:=f;unfold RV.from;split
 ·rename_i c
  have j:0<=k/\k<r.l.length:=by unfold RV.is at c;simpa using c
  have e:aQ (r.low k.toNat):=kq _ _ _ g (kr a _ zo).2.2.1 (kr a _ zo).2.1;unfold RV.fromN;split
  ·have:=Kf d k.toNat zj
   unfold aQ at*;omega
  ·exact e
 ·unfold aQ;omega
def sC(v:Qn)(r:RV)(k t:Int)(w:Qm)(O:cu w v r)(P:aQ r.now)(Q:aQ k)(R:aQ t):
 Qo zP 14 #[v,k,t] w (aK w (.tuple #[.int .i64 (r.start k t).1,.bool (r.start k t).2])):=by
 have y:=O;obtain⟨a4,a5,rfl,A,S⟩:=O;have B:=A;obtain⟨a,c,rfl,l,a6,C⟩:=A;obtain⟨a7,a8,rfl,T,a9,U⟩:=S;have h:=zh y;have V:=zh C;have D:=zh P;have m:=zh Q;have H:=zh R;have W:=zh B;clear C U l T y B;unfold aQ at P Q R;by_cases f:r.is k=true
 ·have I:0<=k/\k<r.l.length:=by unfold RV.is at f;simpa using f
  have i:=zh f;clear f;by_cases X:0<=t
  ·obtain⟨d,rfl⟩: ∃d:Nat,k=d:=⟨k.toNat,zo⟩
   obtain⟨b,o,rfl,Y,J⟩:=V (by intro q;rw[q] at I;simp at I;omega);obtain⟨_,K,_,_⟩:=J d zo;have l:=kr W d zo;obtain⟨ev,n⟩:=zx ((r.l.getD d ah.zero).every);have L:=zh (show r.start d t=(bR t ev,decide (r.from d<=bR t ev)) by unfold RV.start;rw[NH ⟨i,X⟩,n];rfl);have M:=zh (show aQ ev by rw[n];exact l.2.1);rw[<-n] at K;obtain⟨G,s⟩:=zy (bR t ev);obtain⟨F,u⟩:=zy (r.from d);rw[<-s,<-u] at L;have Z:aQ G:=by rw[s];exact gU _ _ H M.2
   have a0:aQ F:=by rw[u];exact RV.from_I64 h D d
   unfold aQ at Z a0;clear n l J;go_enter func14,ntmps14;go_wp2_with fail;refine zb (jP _ r d _ (h.below ze) m) λN j=>?_
   rw[i];obtain⟨f,x⟩:=bl j;obtain⟨c0,b0,b1,b2⟩:=fG f;have b3:=(x.cell (p:=⟨b,_,none⟩) Y).trans K;have g:=zh x;clear x f;go_wp2_with fail;refine(mW _ _ _ H M).mono ?_;rintro e a1 ⟨rfl,rfl⟩;rw[<-s];go_wp2_with fail;refine zb (cH _ r d _ (h.below g) D m) λa1 a2=>?_
   rw[<-u];have a3:=ai g a2;go_wp2;go_ret2;rw[L];exact⟨rfl,a3⟩
  ·have E:=zh (show r.start k t=(0,false) by unfold RV.start;rw[NB zo])
   go_enter func14,ntmps14;go_wp2_with fail;refine zb (jP _ r k _ (h.below ze) m) λN j=>?_
   rw[i];have g:=ai ze j;go_wp2;go_ret2;rw[E];exact⟨rfl,g⟩
 ·have i:=zh (show r.is k=false by simpa using f)
  have E:=zh (show r.start k t=(0,false) by unfold RV.start;rw[NB (by intro q;exact f q.1)]);clear f;go_enter func14,ntmps14;go_wp2_with fail;refine zb (jP _ r k _ (h.below ze) m) λN j=>?_
  rw[i];have g:=ai ze j;go_wp2;go_ret2;rw[E];exact⟨rfl,g⟩
def gK(r:RV)(t:Int):Nat->Nat->Int
 |0,_=>(r.l.length:Int)-1
 |n+1,k=>if r.fromN k<=t then k else gK r t n (k+1)
def RV.cover(r:RV)(t:Int):Int:=gK r t r.l.length 0
def Cj(v:Qn)(r:RV)(t:Int)(w:Qm)(A:cu w v r)(B:aQ r.now)(V:aQ t)(W:r.l.length<=1000000):
 Qo zP 359 #[v,t] w (aK w (.int .i64 (r.cover t))):=by
 have m:=A;obtain⟨X,Y,rfl,C,D⟩:=A;obtain⟨a,c,rfl,E,H,I⟩:=C;obtain⟨J,K,rfl,L,Z,M⟩:=D;have o:=zh m;have p:=zh B;clear I M E L m;unfold aQ at B V;obtain⟨n,g⟩: ∃n,r.l.length=n:=⟨_,rfl⟩;have d:=zh g;rw[g] at W H⊢;clear g;go_enter func359,ntmps359;go_wp2;go_loopw [10] (λi wr=> ∃(k:Nat),k<=n/\i= .int .i64 k/\Qs (r.cover t=gK r t (n-k) k)/\Qs (wr.heap[w.heap.size]?=some (.cells #[(r.now:Int),r.name,.slice a n c,.slice J r.fl.length K] 46))/\Qs (Qr w.heap.size w wr)) (λi _=>n-(intOf i).toNat)
 case atStart=>exact⟨0,Nx _,rfl,zh (by unfold RV.cover;rw[d];rfl),zh (ag rfl),zh ze⟩
 case round=>
  obtain⟨k,a0,rfl,h,q,j⟩:=hrel;obtain⟨c0,N,O,P⟩:=fG q;by_cases Q:k<n
  ·have l:=o.below j
   rw[d] at l;have R:=zh l;have s:=RV.from_I64 o p k;obtain⟨F,e⟩:=zy (r.from k);rw[<-e] at s;have u:=zh (r.from_nat k (by rw[d];exact Q));have f:=zh (show gK r t (n-k) k=if r.fromN k<=t then(k:Int) else gK r t (n-(k+1)) (k+1) by rw[(zo:n-k=(n-(k+1))+1)];rfl);unfold aQ at s;clear l;go_wp2_with fail;refine zb (cH _ r k _ R p (by unfold aQ;omega)) λa1 x=>?_
   rw[<-e];have y:=ai j x;have S:=zh (ab q x);clear c0 N O P;by_cases T:F<=t
   ·go_wp2
    go_ret;exact⟨bp (by rw[h,f,<-u,<-e,NH T]),y⟩
   ·go_wp2
    go_roundw
    case rel=>exact⟨k+1,zo,by go_num,zh (by rw[h,f,<-u,<-e,NB (zo: ¬F<=t)]),S,y⟩
    case measure=>simp[intOf];omega
  ·have U:k=n:=zo
   subst U;have f:=zh (show gK r t (k-k) k=(k:Int)-1 by rw[Ql];show(r.l.length:Int)-1=_;rw[d]);go_wp2;go_ret;exact⟨bp (by rw[h,f]),j⟩
def RV.allN(r:RV)(k:Nat):List Int:=(List.range k).map r.fromN
def RV.allN_len(r:RV)(k:Nat):(r.allN k).length=k:=by simp[RV.allN]
def RV.allN_succ(r:RV)(k:Nat):r.allN (k+1)=r.allN k++ [r.fromN k]:=by simp[RV.allN,PB]
def RV.all(r:RV):List Int:=r.allN r.l.length
def AH(v:Qn)(r:RV)(w:Qm)(R:cu w v r)(S:aQ r.now)(b8:r.l.length<=1000000):
 Qo zP 41 #[v] w (Ke w (λu w'=>w'.ownsRow (w.heap.size+1) 3 1 u r.l.length (r.all.map (Value.int .i64))/\aE w' u r.all)):=by
 obtain⟨T,U,V,W,X⟩:=info_parts gi;have B:=R;obtain⟨b9,c1,rfl,Y,Z⟩:=R;obtain⟨a,c,rfl,a0,a1,a2⟩:=Y;obtain⟨C,D,rfl,a3,a4,a5⟩:=Z;have E:=zh B;have H:=zh S;clear a2 a5 a0 a3 B a4;unfold aQ at S;obtain⟨n,h⟩: ∃n,r.l.length=n:=⟨_,rfl⟩;have l:=zh h;rw[h] at b8 a1⊢;clear h;go_enter func41,ntmps41;go_wp2;go_loopw [3,9] (λo i wr=> ∃(k:Nat) (m:Option Addr) (p:Nat),k<=n/\i= .int .i64 k/\o= .slice m k p/\Qs (wr.ownsRow (w.heap.size+1) 3 1 (.slice m k p) k ((r.allN k).map (Value.int .i64)))/\Qs (wr.heap[w.heap.size]?=some (.cells #[(r.now:Int),r.name,.slice a n c,.slice C r.fl.length D] 46))/\Qs (Qr w.heap.size w wr)/\w.heap.size+1<=wr.heap.size) (λ_ i _=>n-(intOf i).toNat)
 case atStart=>exact⟨0,none,0,Nx _,rfl,rfl,zh zw,zh (ag rfl),zh ze,zm⟩
 case round=>
  obtain⟨k,m,p,c6,rfl,rfl,I,J,q,K⟩:=hrel;obtain⟨c0,a6,c2,c3⟩:=fG J;by_cases a7:k<n
  ·have s:=E.below q
   rw[l] at s;have a8:=zh s;obtain⟨F,L⟩:=zy (r.from k);have a9:=zh (r.from_nat k (by rw[l];exact a7));clear s;go_wp2_with fail;refine zb (cH _ r k _ a8 H (by unfold aQ;omega)) λM d=>?_
   rw[<-L];have t:=aS I d;have b0:=ai q d;have b1:=zh (ab J d);have c7:w.heap.size+1<=M.heap.size:=Nq K d.size;clear c0 a6 c2 c3 K;go_wp2_with (at_builtin;refine wpList_append_own _ rfl _ _ 44 rfl (w.heap.size+1) 3 T (.int .i64 0) 1 8 underlying44 U V W X rfl zd _ _ _ rfl (t.alloc _) ⟨M.heap.size,0,none⟩ 1 1 [.int .i64 F] rfl rfl (iA _ _ _) ?c2 ?c3 ?c4 ?c5 ?_)
   case c2=>intro u N;simp at N;subst N;rfl
   case c3=>unfold maxLen;omega
   case c4=>omega
   case c5=>simp;omega
   intro v' f O g _;have b2:=zh (show Qr w.heap.size w f from(aL (o:= .cells #[(F:Int)] 3) b0 zo).grown g zu (λj y=>by have:=(t.lt j y).1;omega))
   have b3:=zh (show f.heap[w.heap.size]?=some (.cells #[(r.now:Int),r.name,.slice a n c,.slice C r.fl.length D] 46) by
    rw[g.block _ zu (λb4=>by have:=(t.lt _ b4.symm).1;omega),Oz _ _ _ zo];exact b1)
   have b5:w.heap.size+1<=f.heap.size:=by have:=g.size;simp at this;omega
   have P:=zh (show f.ownsRow (w.heap.size+1) 3 1 v' (k+1) ((r.allN (k+1)).map (Value.int .i64)) by
    rw[RV.allN_succ,NU,<-a9,<-L];exact O)
   obtain⟨c8,c9,rfl⟩:=az P;clear O g;go_wp2;go_roundw
   case rel=>exact⟨k+1,_,_,zo,by go_num,rfl,P,b3,b2,b5⟩
   case measure=>simp[intOf];omega
  ·have b6:k=n:=zo
   subst b6
   have b7:=zh (show∀x∈r.all,-9223372036854775808<=x/\x<=9223372036854775807 by
    intro x Q;simp only[RV.all,RV.allN,OI,OT] at Q;obtain⟨j,y,rfl⟩:=Q;rw[<-r.from_nat j y];exact RV.from_I64 E H j)
   go_wp2;go_ret;have e:r.allN k=r.all:=by unfold RV.all;rw[l]
   have A:=I.out;rw[e] at A;exact⟨_,rfl,⟨A,gk (by rw[show r.all.length=k by rw[<-e,RV.allN_len]];exact A) b7⟩,q⟩
def RV.takes(r:RV)(name:Qt)(t:Int):Int:=
 if bn name=false\/t<0 then 1 else if r.now<t then 25 else if r.is 0=false\/t<r.from 0 then 24 else 0
def nu(v:Qn)(r:RV)(name:Qt)(t x:Int)(w:Qm)(P:cu w v r)(Q:aQ r.now)(B:name.size<=9223372036854775807)(b0:aQ t):
 Qo zP 10 #[v,.agg #[name,t,x]] w (aK w (.int .i64 (r.takes name t))):=by
 have R:=P;have W:=zh (RV.from_I64 P Q 0);obtain⟨b1,b2,rfl,X,Y⟩:=P;obtain⟨a,c,rfl,Z,a0,a1⟩:=X;obtain⟨J,K,rfl,a2,a3,a4⟩:=Y;have A:=zh R;have S:=zh Q;have a5:=zh B;clear a1 a4 Z a2 R a0 a3 B;unfold aQ at Q b0;obtain⟨q,m⟩:=zy (bn name);go_enter func10,ntmps10;go_wp2_with fail;refine zb (dw _ [name] _ (cG (l:= [name]) zm (by rfl) (by intro s B;simp at B;subst B;exact a5) zm)) λj a6=>?_
 rw[show [name].all bn=q by rw[m];simp];obtain⟨L,M,T⟩:=gE (Below.trans (ak _ _|>.mono zl) (a6.mono zm));obtain⟨c0,n,o,p⟩:=fG L;obtain⟨N,u,O⟩:=aW M;have y:=zh T;clear T;cases q
 ·go_wp2
  go_ret;exact⟨bp (by unfold RV.takes;rw[NH (.inl m.symm)]),y⟩
 ·by_cases a7:t<0
  ·go_wp2
   go_ret;exact⟨bp (by unfold RV.takes;rw[NH (.inr a7)]),y⟩
  ·by_cases a8:r.now<t
   ·go_wp2
    go_ret;exact⟨bp (by unfold RV.takes;rw[NB (by rw[<-m];simp;omega),NH a8]),y⟩
   ·have b3:=zh L
    have b4:=zh M;clear L M;obtain⟨i,C⟩:=zy (r.is 0);have U:=W.out;obtain⟨F,D⟩:=zy (r.from 0);rw[<-D] at U;unfold aQ at U;have E:=zh (show aQ 0 by unfold aQ;omega);cases i
    ·go_wp2_with fail
     refine zI (λw'=>Qr w.heap.size w w'/\w'.cell? ⟨w.heap.size,0,none⟩=some (.int .i64 r.now)/\w'.cell? ⟨w.heap.size,1,none⟩=some (.string r.name)/\w'.cell? ⟨w.heap.size,2,none⟩=some (.slice a r.l.length c)/\w'.cell? ⟨w.heap.size,3,none⟩=some (.slice J r.fl.length K)/\w'.cell? ⟨w.heap.size+1,1,none⟩=some (.int .i64 t)) 11 (zL [?_,?_,?_,?_,?_,?_,?_,?_,?_,?_,?_]) (λj k f d=>⟨ai f.1 d,ae f.2.1 d,ae f.2.2.1 d,ae f.2.2.2.1 d,ae f.2.2.2.2.1 d,ae f.2.2.2.2.2 d⟩) (⟨y.drew,c0,n,o,p,u⟩) ?_;rotate_right;refine zW ?_;refine aw zk rfl rfl ?_ ?_
     ·intro j e g H h;(try dsimp only at e);go_simp;refine zb (jP _ r 0 _ (A.below e.1) E) λk d=>?_;rw[<-C];exact h.out _ _ zz d
     iterate 2
      refine zW ?_
     iterate 5
      refine aw zk rfl rfl ?_ ?_
      ·intro j e g H h;rw[NB (by simp[Region.wanted,yielded,undef])];exact h.out _ _ (by rfl) zr
      simp only[zS]
     iterate 2
      refine zW ?_
     refine zD λV e g=>?_
     have I:=zh e.1;clear e g c0 n o p N u O;go_wp2;go_ret;exact⟨bp (by unfold RV.takes;rw[NB (by rw[<-m];simp;omega),NB zo,NH (.inl C.symm)]),I⟩
    ·by_cases a9:t<F
     ·go_wp2_with fail
      refine zI (λw'=>Qr w.heap.size w w'/\w'.cell? ⟨w.heap.size,0,none⟩=some (.int .i64 r.now)/\w'.cell? ⟨w.heap.size,1,none⟩=some (.string r.name)/\w'.cell? ⟨w.heap.size,2,none⟩=some (.slice a r.l.length c)/\w'.cell? ⟨w.heap.size,3,none⟩=some (.slice J r.fl.length K)/\w'.cell? ⟨w.heap.size+1,1,none⟩=some (.int .i64 t)) 11 (zL [?_,?_,?_,?_,?_,?_,?_,?_,?_,?_,?_]) (λj k f d=>⟨ai f.1 d,ae f.2.1 d,ae f.2.2.1 d,ae f.2.2.2.1 d,ae f.2.2.2.2.1 d,ae f.2.2.2.2.2 d⟩) (⟨y.drew,c0,n,o,p,u⟩) ?_;rotate_right;refine zW ?_;refine aw zk rfl rfl ?_ ?_
      ·intro j e g H h;(try dsimp only at e);go_simp;refine zb (jP _ r 0 _ (A.below e.1) E) λk d=>?_;rw[<-C];exact h.out _ _ zz d
      iterate 5
       refine zW ?_
      refine aw zk rfl rfl ?_ ?_
      ·intro j e g H h;(try dsimp only at e);go_simp;refine zb (cH _ r 0 _ (A.below e.1) S E) λk d=>?_;rw[<-D];exact h.out _ _ zz d
      iterate 3
       refine zW ?_
      refine zD λV e g=>?_
      have I:=zh e.1;clear e g c0 n o p N u O;go_wp2;go_ret;exact⟨bp (by unfold RV.takes;rw[NB (by rw[<-m];simp;omega),NB zo,NH (.inr (by rw[<-D];exact a9))]),I⟩
     ·go_wp2_with fail
      refine zI (λw'=>Qr w.heap.size w w'/\w'.cell? ⟨w.heap.size,0,none⟩=some (.int .i64 r.now)/\w'.cell? ⟨w.heap.size,1,none⟩=some (.string r.name)/\w'.cell? ⟨w.heap.size,2,none⟩=some (.slice a r.l.length c)/\w'.cell? ⟨w.heap.size,3,none⟩=some (.slice J r.fl.length K)/\w'.cell? ⟨w.heap.size+1,1,none⟩=some (.int .i64 t)) 11 (zL [?_,?_,?_,?_,?_,?_,?_,?_,?_,?_,?_]) (λj k f d=>⟨ai f.1 d,ae f.2.1 d,ae f.2.2.1 d,ae f.2.2.2.1 d,ae f.2.2.2.2.1 d,ae f.2.2.2.2.2 d⟩) (⟨y.drew,c0,n,o,p,u⟩) ?_;rotate_right;refine zW ?_;refine aw zk rfl rfl ?_ ?_
      ·intro j e g H h;(try dsimp only at e);go_simp;refine zb (jP _ r 0 _ (A.below e.1) E) λk d=>?_;rw[<-C];exact h.out _ _ zz d
      iterate 5
       refine zW ?_
      refine aw zk rfl rfl ?_ ?_
      ·intro j e g H h;(try dsimp only at e);go_simp;refine zb (cH _ r 0 _ (A.below e.1) S E) λk d=>?_;rw[<-D];exact h.out _ _ zz d
      iterate 3
       refine zW ?_
      refine zD λV e g=>?_
      have I:=zh e.1;clear e g c0 n o p N u O;go_wp2;go_ret;exact⟨bp (by unfold RV.takes;rw[NB (by rw[<-m];simp;omega),NB zo,NB (by rw[<-C,<-D];simp;omega)]),I⟩
def lP{w:Qm}{b:Nat}{T:Qp}{a c d e f g h:Qn}(i:w.heap[b]?=some (.cells #[a,c,d,e,f,g,h] T)):
 w.cell? ⟨b,0,none⟩=some a/\w.cell? ⟨b,1,none⟩=some c/\w.cell? ⟨b,2,none⟩=some d/\w.cell? ⟨b,3,none⟩=some e/\w.cell? ⟨b,4,none⟩=some f/\w.cell? ⟨b,5,none⟩=some g/\w.cell? ⟨b,6,none⟩=some h:=by
 refine⟨?_,?_,?_,?_,?_,?_,?_⟩<;>(rw[NA w b _ _ _ _ i];rfl)
structure ay where
 name:Qt
 start:Int
 agg:aF
def ay.key(r:ay):Qt×Int:=(r.name,r.start)
def ay.val(r:ay):Qn:= .agg #[r.name,(r.start:Int),(r.agg.c:Int),(r.agg.hi:Int),.int .u64 r.agg.lo,(r.agg.mn:Int),(r.agg.mx:Int)]
def ay.ok(r:ay):Prop:=r.name.size<=1000000/\aQ r.start/\r.agg.ok
structure bN(w:Qm)(p:Nat)(e:Int)(b:Nat)(l:List ((Qt×Int)×aF)):Prop where
 blk:w.heap[p]?=some (.cells #[.int .i64 e,.map (some b)] 181)
 map:bL zP 183 ez aF.val w b l
def cI(e:Int)(r:ay):Bool:=bn r.name&&decide (0<=r.start)&&lS r.start e&&r.agg.valid
def jQ{w:Qm}{p b:Nat}{e:Int}(a:w.heap[p]?=some (.cells #[e,.map (some b)] 181)):Qo zP 91 #[p] w (aK w (.bool false)):=by
 obtain⟨c0,c⟩:=bE a;clear a;have hq:=λw=>run_eql_map_nil_sl (P:=zP) w 179 _ _ (some b) underlying179
 go_enter func91,ntmps91;go_wp2;go_ret;exact⟨rfl,ND _ _⟩
def xZ{w:Qm}{p b:Nat}{e:Int}(i:w.heap[p]?=some (.cells #[e,.map (some b)] 181))(H:Qs (aQ e))(r:ay)(F:Qs r.ok):
 Qo zP 275 #[p,r.val] w (aK w (.bool (cI e r))):=by
 obtain⟨c0,I⟩:=bE i;obtain⟨n,s,⟨c,m,t,u,v⟩⟩:=r;have B:=zh (show∀s∈ [n],s.size<=9223372036854775807 by intro s y;simp at y;subst y;have:=F.1;dsimp only at this;omega);obtain⟨q,x⟩:=zy (bn n);obtain⟨o,C⟩:=zy (lS s e);clear i;unfold ay.val;dsimp only;go_enter func275,ntmps275;cases q
 ·go_wp2_with fail
  refine zI (λw'=>(Qr w.heap.size w w'/\w'.heap[w.heap.size]?=some (.cells #[n,(s:Int),(c:Int),(m:Int),.int .u64 t,(u:Int),(v:Int)] 65))/\w'.cell? ⟨p,0,none⟩=some (.int .i64 e)/\w'.cell? ⟨w.heap.size,0,none⟩=some (.string n)/\w'.cell? ⟨w.heap.size,1,none⟩=some (.int .i64 s)/\w'.cell? ⟨w.heap.size,2,none⟩=some (.int .i64 c)/\w'.cell? ⟨w.heap.size,3,none⟩=some (.int .i64 m)/\w'.cell? ⟨w.heap.size,4,none⟩=some (.int .u64 t)/\w'.cell? ⟨w.heap.size,5,none⟩=some (.int .i64 u)/\w'.cell? ⟨w.heap.size,6,none⟩=some (.int .i64 v)) 24 (zL [?_,?_]++(mV [n])::zL [?_,?_,?_,?_,?_,?_,?_,?_,?_,?_,?_,?_,?_,?_,?_,?_,?_,?_,?_,?_,?_]) (λh k i f=>⟨⟨ai i.1.1 f,ab i.1.2 f⟩,ae i.2.1 f,lP (ab i.1.2 f)⟩) (⟨⟨ze.drew,Nu _ _⟩,ae c0 ze.drew,(lP (Nu _ _))⟩) ?_;rotate_right
  iterate 2
   refine zW ?_
  refine aT zk rfl rfl ?_ λD=>?_
  ·intro h a g j d;(try dsimp only at a);go_simp;exact d.out _ _ _ zz (cG (l:= [n]) rfl rfl B zm) ze
  simp only[zS];refine aw zk rfl rfl ?_ ?_
  ·intro h a g j d;(try dsimp only at a);go_simp;refine zb (dw _ [n] _ (g.out 2 zk)) λk f=>?_;rw[show [n].all bn=false by rw[x];simp];exact d.out _ _ zz f
  refine zW ?_
  iterate 3
   refine aw zk rfl rfl ?_ ?_
   ·intro h a g j d;rw[NB (by simp[Region.wanted,yielded,undef])];exact d.out _ _ (by rfl) zr
   simp only[zS]
  iterate 2
   refine zW ?_
  iterate 7
   refine aw zk rfl rfl ?_ ?_
   ·intro h a g j d;rw[NB (by simp[Region.wanted,yielded,undef])];exact d.out _ _ (by rfl) zr
   simp only[zS]
  iterate 2
   refine zW ?_
  iterate 3
   refine aw zk rfl rfl ?_ ?_
   ·intro h a g j d;rw[NB (by simp[Region.wanted,yielded,undef])];exact d.out _ _ (by rfl) zr
   simp only[zS]
  iterate 2
   refine zW ?_
  refine zD λk a g=>?_
  go_wp2;go_ret;exact⟨bu (by unfold cI;rw[<-x];rfl),a.1.1⟩
 ·by_cases y:0<=s
  ·have E:=zh (NV y)
   cases o
   ·go_wp2_with fail
    refine zI (λw'=>(Qr w.heap.size w w'/\w'.heap[w.heap.size]?=some (.cells #[n,(s:Int),(c:Int),(m:Int),.int .u64 t,(u:Int),(v:Int)] 65))/\w'.cell? ⟨p,0,none⟩=some (.int .i64 e)/\w'.cell? ⟨w.heap.size,0,none⟩=some (.string n)/\w'.cell? ⟨w.heap.size,1,none⟩=some (.int .i64 s)/\w'.cell? ⟨w.heap.size,2,none⟩=some (.int .i64 c)/\w'.cell? ⟨w.heap.size,3,none⟩=some (.int .i64 m)/\w'.cell? ⟨w.heap.size,4,none⟩=some (.int .u64 t)/\w'.cell? ⟨w.heap.size,5,none⟩=some (.int .i64 u)/\w'.cell? ⟨w.heap.size,6,none⟩=some (.int .i64 v)) 24 (zL [?_,?_]++(mV [n])::zL [?_,?_,?_,?_,?_,?_,?_,?_,?_,?_,?_,?_,?_,?_,?_,?_,?_,?_,?_,?_,?_]) (λh k i f=>⟨⟨ai i.1.1 f,ab i.1.2 f⟩,ae i.2.1 f,lP (ab i.1.2 f)⟩) (⟨⟨ze.drew,Nu _ _⟩,ae c0 ze.drew,(lP (Nu _ _))⟩) ?_;rotate_right
    iterate 2
     refine zW ?_
    refine aT zk rfl rfl ?_ λD=>?_
    ·intro h a g j d;(try dsimp only at a);go_simp;exact d.out _ _ _ zz (cG (l:= [n]) rfl rfl B zm) ze
    simp only[zS];refine aw zk rfl rfl ?_ ?_
    ·intro h a g j d;(try dsimp only at a);go_simp;refine zb (dw _ [n] _ (g.out 2 zk)) λk f=>?_;rw[show [n].all bn=true by rw[x];simp];exact d.out _ _ zz f
    iterate 3
     refine zW ?_
    refine aw zk rfl rfl ?_ ?_
    ·intro h a g j d;(try dsimp only at a);go_simp;exact d.out _ _ zz zr
    iterate 8
     refine zW ?_
    refine aw zk rfl rfl ?_ ?_
    ·intro h a g j d;(try dsimp only at a);go_simp;refine(tM _ _ _ F.2.1 H).mono ?_;rintro e k ⟨rfl,A⟩;have A:=A.symm;subst A;rw[<-C];exact d.out _ _ zz zr
    iterate 2
     refine zW ?_
    iterate 3
     refine aw zk rfl rfl ?_ ?_
     ·intro h a g j d;rw[NB (by simp[Region.wanted,yielded,undef])];exact d.out _ _ (by rfl) zr
     simp only[zS]
    iterate 2
     refine zW ?_
    refine zD λk a g=>?_
    go_wp2;go_ret;exact⟨bu (by unfold cI;rw[<-x,NV y,<-C];rfl),a.1.1⟩
   ·go_wp2_with fail
    refine zI (λw'=>(Qr w.heap.size w w'/\w'.heap[w.heap.size]?=some (.cells #[n,(s:Int),(c:Int),(m:Int),.int .u64 t,(u:Int),(v:Int)] 65))/\w'.cell? ⟨p,0,none⟩=some (.int .i64 e)/\w'.cell? ⟨w.heap.size,0,none⟩=some (.string n)/\w'.cell? ⟨w.heap.size,1,none⟩=some (.int .i64 s)/\w'.cell? ⟨w.heap.size,2,none⟩=some (.int .i64 c)/\w'.cell? ⟨w.heap.size,3,none⟩=some (.int .i64 m)/\w'.cell? ⟨w.heap.size,4,none⟩=some (.int .u64 t)/\w'.cell? ⟨w.heap.size,5,none⟩=some (.int .i64 u)/\w'.cell? ⟨w.heap.size,6,none⟩=some (.int .i64 v)) 24 (zL [?_,?_]++(mV [n])::zL [?_,?_,?_,?_,?_,?_,?_,?_,?_,?_,?_,?_,?_,?_,?_,?_,?_,?_,?_,?_,?_]) (λh k i f=>⟨⟨ai i.1.1 f,ab i.1.2 f⟩,ae i.2.1 f,lP (ab i.1.2 f)⟩) (⟨⟨ze.drew,Nu _ _⟩,ae c0 ze.drew,(lP (Nu _ _))⟩) ?_;rotate_right
    iterate 2
     refine zW ?_
    refine aT zk rfl rfl ?_ λD=>?_
    ·intro h a g j d;(try dsimp only at a);go_simp;exact d.out _ _ _ zz (cG (l:= [n]) rfl rfl B zm) ze
    simp only[zS];refine aw zk rfl rfl ?_ ?_
    ·intro h a g j d;(try dsimp only at a);go_simp;refine zb (dw _ [n] _ (g.out 2 zk)) λk f=>?_;rw[show [n].all bn=true by rw[x];simp];exact d.out _ _ zz f
    iterate 3
     refine zW ?_
    refine aw zk rfl rfl ?_ ?_
    ·intro h a g j d;(try dsimp only at a);go_simp;exact d.out _ _ zz zr
    iterate 8
     refine zW ?_
    refine aw zk rfl rfl ?_ ?_
    ·intro h a g j d;(try dsimp only at a);go_simp;refine(tM _ _ _ F.2.1 H).mono ?_;rintro e k ⟨rfl,A⟩;have A:=A.symm;subst A;rw[<-C];exact d.out _ _ zz zr
    iterate 4
     refine zW ?_
    refine aw zk rfl rfl ?_ ?_
    ·intro h a g j d;(try dsimp only at a);go_simp;refine zb (na c m t u v _) λk f=>?_;exact d.out _ _ zz f
    iterate 2
     refine zW ?_
    refine zD λk a g=>?_
    go_wp2;go_ret;exact⟨bu (by unfold cI;rw[<-x,NV y,<-C];rfl),a.1.1⟩
  ·have E:=zh (NQ y)
   go_wp2_with fail;refine zI (λw'=>(Qr w.heap.size w w'/\w'.heap[w.heap.size]?=some (.cells #[n,(s:Int),(c:Int),(m:Int),.int .u64 t,(u:Int),(v:Int)] 65))/\w'.cell? ⟨p,0,none⟩=some (.int .i64 e)/\w'.cell? ⟨w.heap.size,0,none⟩=some (.string n)/\w'.cell? ⟨w.heap.size,1,none⟩=some (.int .i64 s)/\w'.cell? ⟨w.heap.size,2,none⟩=some (.int .i64 c)/\w'.cell? ⟨w.heap.size,3,none⟩=some (.int .i64 m)/\w'.cell? ⟨w.heap.size,4,none⟩=some (.int .u64 t)/\w'.cell? ⟨w.heap.size,5,none⟩=some (.int .i64 u)/\w'.cell? ⟨w.heap.size,6,none⟩=some (.int .i64 v)) 24 (zL [?_,?_]++(mV [n])::zL [?_,?_,?_,?_,?_,?_,?_,?_,?_,?_,?_,?_,?_,?_,?_,?_,?_,?_,?_,?_,?_]) (λh k i f=>⟨⟨ai i.1.1 f,ab i.1.2 f⟩,ae i.2.1 f,lP (ab i.1.2 f)⟩) (⟨⟨ze.drew,Nu _ _⟩,ae c0 ze.drew,(lP (Nu _ _))⟩) ?_;rotate_right
   iterate 2
    refine zW ?_
   refine aT zk rfl rfl ?_ λD=>?_
   ·intro h a g j d;(try dsimp only at a);go_simp;exact d.out _ _ _ zz (cG (l:= [n]) rfl rfl B zm) ze
   simp only[zS];refine aw zk rfl rfl ?_ ?_
   ·intro h a g j d;(try dsimp only at a);go_simp;refine zb (dw _ [n] _ (g.out 2 zk)) λk f=>?_;rw[show [n].all bn=true by rw[x];simp];exact d.out _ _ zz f
   iterate 3
    refine zW ?_
   refine aw zk rfl rfl ?_ ?_
   ·intro h a g j d;(try dsimp only at a);go_simp;rw[E];exact d.out _ _ zz zr
   iterate 2
    refine zW ?_
   iterate 7
    refine aw zk rfl rfl ?_ ?_
    ·intro h a g j d;rw[NB (by simp[Region.wanted,yielded,undef])];exact d.out _ _ (by rfl) zr
    simp only[zS]
   iterate 2
    refine zW ?_
   iterate 3
    refine aw zk rfl rfl ?_ ?_
    ·intro h a g j d;rw[NB (by simp[Region.wanted,yielded,undef])];exact d.out _ _ (by rfl) zr
    simp only[zS]
   iterate 2
    refine zW ?_
   refine zD λk a g=>?_
   go_wp2;go_ret;exact⟨bu (by unfold cI;rw[<-x];show _=(true&&decide (0<=s)&&_&&_);rw[E];rfl),a.1.1⟩
def AI(a:Qp){w:Qm}{p b:Nat}{e:Int}{l:List ((Qt×Int)×aF)}(c:bN w p e b l):(Builtin.len_ #[179] a #[.map (some b)]).run zP w= .ok (.int .i64 l.length) w:=c.map.len underlying179 a
def bN.below{w w':Qm}{p b:Nat}{e:Int}{l:List ((Qt×Int)×aF)}(a:bN w p e b l)(c:Qr w.heap.size w w'):bN w' p e b l:=⟨ab a.blk c,a.map.below c⟩
def qw(n:Int)(w:Qm)(a:aQ n):Qo zP 178 #[n] w (λx w'=> ∃p b,x= .returned (.pointer (some ⟨p,0,none⟩))/\Qs (bN w' p (max n 1) b [])/\w.heap.size<=p/\w.heap.size<=b/\Qs (Qr w.heap.size w w')):=by
 unfold aQ at a;have c:= @run_makeMap zP;go_enter func178,ntmps178;go_wp2;go_ret;refine⟨_,_,rfl,⟨ag zm,?_⟩,?_,Nt _,?_⟩
 ·exact(bL.new _ _ _ _ _).below ze
 ·simp
 ·exact ai ze ze
def ya{w:Qm}{p b:Nat}{e:Int}{l:List ((Qt×Int)×aF)}(d:bN w p e b l):Qo zP 267 #[p] w (aK w (.int .i64 e)):=by
 have a:=zh d.blk;clear d;go_enter func267,ntmps267;go_wp2_with fail;refine zb (jQ a) λf c=>?_
 obtain⟨c0,g⟩:=bE (ab a c);go_wp2;go_ret;exact⟨rfl,c⟩
def yb(b:Nat)(l:List ((Qt×Int)×aF))(w:Qm)(g:bL zP 183 ez aF.val w b l):
 Qo zP 137 #[.map (some b)] w (λe w'=> ∃c,e= .returned (.map (some c))/\w.heap.size<=c/\Qs (bL zP 183 ez aF.val w' c l)/\Qr w.heap.size w w'):=by
 obtain⟨es,a,d,f⟩:=g;have hq:=λw=>run_eql_map_nil_sl (P:=zP) w 179 _ _ (some b) underlying179
 go_enter func137,ntmps137;go_wp2_with fail;rw[run_callFunc_extern func206 zk zk zk (e:=Extern.MapsClone.clone) zk,run_maps_clone_sl w 179 d];simp only[Result.andThen];rw[OZ];go_wp2_with fail;rw[run_typeAssert_map_sl _ 179 20 _ _ _ underlying179];simp only[Result.andThen];rw[OZ];go_wp2;go_ret;exact⟨_,rfl,Nt _,⟨es,a,ag rfl,f⟩,ak _ _⟩
section
variable{α:Type}{k:Nat}{enc:α->List Qn}{w w':Qm}{v:Qn}{l:List α}{F:Nat->Prop}
def aB(k:Nat)(enc:α->List Qn)(w:Qm)(v:Qn)(l:List α):Prop:=
 ∃a c,v= .slice a l.length c/\(l.length<=c/\c<=9223372036854775807/\(a=none->c=0))/\
  (l≠ []-> ∃b o,a=some ⟨b,o,none⟩/\b<w.heap.size/\ ∀j u,(l.flatMap enc)[j]?=some u->w.cell? ⟨b,o+j,none⟩=some u)
def aD:Qn->Nat->Prop
 | .slice (some a) n _,b=>n≠0/\a.block=b
 |_,_=>False
def aB.step(d:aB k enc w v l)(r:w.heap.size<=w'.heap.size)(s: ∀b,aD v b->b<w.heap.size->w'.heap[b]?=w.heap[b]?):aB k enc w' v l:=by
 obtain⟨a,c,e,i,m⟩:=d;refine⟨a,c,e,i,λf=>?_⟩;obtain⟨b,o,g,h,n⟩:=m f;have p:aD v b:=by rw[e,g];exact⟨λd=>f (NI d),rfl⟩
 exact⟨b,o,g,No h r,λj u q=>(World.cell?_of_block (s b p h)).trans (n j u q)⟩
def aB.below(d:aB k enc w v l)(a:Qr w.heap.size w w'):aB k enc w' v l:=d.step a.size λb _ c=>a.block b c
def aB.ch(e:aB k enc w v l)(a:Ch F w w')(f: ∀b,aD v b-> ¬F b):aB k enc w' v l:=e.step a.size λb c d=>a.block b d (f b c)
def eO(k:Nat)(enc:α->List Qn)(w:Qm):aB k enc w (.slice none 0 0) []:=⟨none,0,rfl,⟨zm,zo,λ_=>rfl⟩,λa=>absurd rfl a⟩
def fn(a: ∀x,(enc x).length=k): ∀l:List α,(l.flatMap enc).length=l.length*k
 | []=>zm
 |x::l=>by rw[NZ,Nw,a,fn a l,NW,Nat.add_mul];omega
def jR(d: ∀x,(enc x).length=k): ∀{l:List α} {j:Nat} {x:α} {i:Nat} {u:Qn},l[j]?=some x->(enc x)[i]?=some u->(l.flatMap enc)[j*k+i]?=some u
 | [],j,x,i,u,a,_=>by simp at a
 |y::l,0,x,i,u,a,c=>by
  simp at a;subst a;have:i<(enc y).length:=(Ny.1 c).1;rw[NZ,Ox,Ok,OV this];exact c
 |y::l,j+1,x,i,u,a,c=>by
  have e:l[j]?=some x:=by simpa using a
  have:=jR d e c;rw[NZ,OE (by rw[d,Nat.add_mul];omega),d,<-this]
  congr 1
  rw[Nat.add_mul];omega
def aB.elem{a:Option Addr}{n c:Nat}(r:aB k enc w (.slice a n c) l)(s: ∀x,(enc x).length=k){j:Nat}{x:α}(f:l[j]?=some x):
 ∃b o,a=some ⟨b,o,none⟩/\b<w.heap.size/\ ∀i u,(enc x)[i]?=some u->w.cell? ⟨b,o+j*k+i,none⟩=some u:=by
 obtain⟨t,c',d,v,g⟩:=r;obtain⟨b,o,h,m,p⟩:=g (λe=>by rw[e] at f;simp at f);injection d with d
 exact⟨b,o,d.trans h,m,λi u q=>by rw[OU];exact p _ _ (jR s f q)⟩
def aB.own{B:Nat}{e:Qp}(f:w.ownsRow B e k v l.length (l.flatMap enc)):aB k enc w v l/\iX B v:=by
 have p:=f;refine⟨?_,cP f⟩;rcases f.2 with⟨c,d⟩|⟨g,cap,m,c,_,h,d,n,q,i⟩
 ·subst c
  obtain rfl:=NI d;exact eO _ _ _
 ·subst c
  refine⟨_,cap,rfl,⟨d,by unfold maxLen at n;omega,λe=>nomatch e⟩,λ_=>⟨g,0,rfl,aa h,λj u a=>?_⟩⟩;rw[NA w g _ _ _ _ h,Ok];have o:j<(m.toList.take (l.length*k)).length:=by rw[i];exact(Ny.1 a).1
  rw[<-i] at a;rw[NP] at o;rw[Ow zo] at a;simpa using a
def bC(k:Nat){b c:Nat}{a:Array Qn}{T:Qp}{fr:Nat×Nat}(d:w.heap[b]?=some (.cells a T fr))(h:a=(l.flatMap enc).toArray)(f:l.length<=c/\c<=9223372036854775807):
 aB k enc w (.slice (some ⟨b,0,none⟩) l.length c) l:=by
 subst h;refine⟨_,_,rfl,⟨f.1,f.2,λe=>nomatch e⟩,λ_=>⟨b,0,rfl,aa d,λj u g=>?_⟩⟩;rw[NA w b _ _ _ _ d,Ok];simpa using g
end
def aB.take{α:Type}{k:Nat}{enc:α->List Qn}{w:Qm}{a:Option Addr}{n c:Nat}{l:List α}(t:aB k enc w (.slice a n c) l){j:Nat}(v:j<=l.length):aB k enc w (.slice a j c) (l.take j):=by
 obtain⟨x,c',e,f,g⟩:=t;injection e with h y m;subst h m
 refine⟨a,c,by rw[NP,OY v],by rw[NP];exact⟨zo,f.2⟩,λp=>?_⟩;obtain⟨b,o,q,r,s⟩:=g (λe=>p (by rw[e,List.take_nil]));refine⟨b,o,q,r,λi u d=>s i u ?_⟩;have e:l.flatMap enc=(l.take j).flatMap enc++(l.drop j).flatMap enc:=by rw[<-NK,Po]
 rw[e,OV (Ny.1 d).1];exact d
def bW{w:Qm}{b:Nat}{T:Qp}{e f g:Qn}(a c d:Qn)(h:w.heap[b]?=some (.cells #[e,f,g] T)):(((w.setCell ⟨b,0,none⟩ a).setCell ⟨b,1,none⟩ c).setCell ⟨b,2,none⟩ d).heap[b]?=some (.cells #[a,c,d] T):=by
 rw[al (al (al h a) c) d];rfl
def aR{w:Qm}{b k:Nat}(c d e:Qn)(a:k≠b):(((w.setCell ⟨b,0,none⟩ c).setCell ⟨b,1,none⟩ d).setCell ⟨b,2,none⟩ e).heap[k]?=w.heap[k]?:=by
 rw[af _ a,af _ a,af _ a]
def fo{w w':Qm}{F:Nat->Prop}{B k n:Nat}{e:Qp}{v:Qn}{d:List Qn}(f:w.ownsRow B e k v n d)(l:Ch F w w')(m: ∀b,B<=b-> ¬F b):w'.ownsRow B e k v n d:=by
 refine⟨f.1,?_⟩;rcases f.2 with a|⟨g,cap,h,a,c,i,j⟩
 ·exact .inl a
 ·exact .inr ⟨g,cap,h,a,c,l.keep i (m g c),j⟩
def ks(w:Qm)(a:Array Qn)(T:Qp): ∀(j:Nat) (u:Qn),a.toList[j]?=some u->(w.alloc (.cells a T)).cell? ((⟨w.heap.size,0,none⟩:Addr).add j)=some u:=by
 intro j u c;rw[pK,World.cell?_alloc_at _ _ _ _ rfl,Ok];simpa using c
def AJ{w:Qm}{B k n g cap i:Nat}{e:Qp}{d:List Qn}{y:Qn}(s:w.ownsRow B e k (.slice (some ⟨g,0,none⟩) n cap) n d)(v:i<d.length):(w.setCell ⟨g,i,none⟩ y).ownsRow B e k (.slice (some ⟨g,0,none⟩) n cap) n (d.set i y):=by
 obtain⟨f,a⟩:=s;refine⟨by simpa using f,.inr ?_⟩;rcases a with⟨a,_⟩|⟨t,u,h,a,j,l,m,o,p,q⟩
 ·cases a
 ·injection a with c _ r;injection c with c;injection c with c
  subst c r;refine⟨g,cap,h.setIfInBounds i y,rfl,j,al l _,m,o,by simpa using p,?_⟩;rw[Array.toList_setIfInBounds,<-q,List.take_set]
def dr{w:Qm}{B k n:Nat}{e:Qp}{v:Qn}{h:List Qn}(r:w.ownsRow B e k v n h)(s:n≠0): ∃g cap,v= .slice (some ⟨g,0,none⟩) n cap/\B<=g/\g<w.heap.size/\n<=cap/\cap<=9223372036854775807/\(∀o,w.frozen? ⟨g,o,none⟩=false)/\ ∀j u,h[j]?=some u->w.cell? ⟨g,j,none⟩=some u:=by
 rcases r.2 with⟨_,c⟩|⟨g,cap,i,c,l,d,m,p,t,f⟩
 ·exact absurd c s
 ·refine⟨g,cap,c,l,aa d,m,p,λo=>ad d,λj u a=>?_⟩
  rw[NA w g _ _ _ _ d];have q:j<(i.toList.take (n*k)).length:=by rw[f];exact(Ny.1 a).1
  rw[<-f] at a;rw[NP] at q;rw[Ow zo] at a;simpa using a
def cJ{v:Qn}{b:Nat}(d:aD v b):v.ownBlock=some b:=by
 cases v with
 |slice a n c=>cases a with
  |none=>exact d.elim
  |some a=>obtain⟨_,d⟩:=d;simp[Value.ownBlock,d]
 |_=>exact d.elim
section
variable{R:Qm->Qm->Prop}{P:Program}{ops:Array Oper}{Q:Exit->Act->Qm->Prop}{S:Qm->Prop}{specs:List (br R)}
end
def ec{w w':Qm}(a:Qr w.drew.heap.size w.drew w'):Qr w.heap.size w w':=⟨a.os,a.tape,a.output,a.size,a.block⟩
def Nc(n:Nat)(o:Obj):br kM:= .rel (λv w=> ∃b,v= .slice (some ⟨b,0,none⟩) n n/\w.heap[b]?=some o) (λ_ _ _ a c=>by obtain⟨b,d,e⟩:=a;exact⟨b,d,ab e c⟩)
def cY{α:Type}{d:Nat}{enc:α->List Qn}{P:Program}{w:Qm}{o:Oper}{a:Act}{r:Act->Qm->Prop}{Q:Exit->Act->Qm->Prop}(s x:Operand)(t:Qp)
 (A:o.op= .call {callee:= .builtin .append,args:=#[s,x],argTypes:=#[t,t]})
 (base:Nat) (e:Qp) (i:TypeInfo) (z:Qn) (bytes:Nat) (B:P.underlying t=some (.slice e)) (C:P.info? e=some i) (N:i.zero=some z) (O:i.size=d) (R:i.bytes=bytes) (S:z.cells.size=d) (T:1<=d)
 (v u:Qn) (n:Nat) (h:List Qn) (l:List α) (D:a.eval s=v) (m:w.ownsRow base e d v n h) (E:a.eval x=u) (U:aB d enc w u l) (V: ∀x,(enc x).length=d) (W: ∀x,∀y∈enc x,y.oneCell'=true)
 (a0:(n+l.length)*bytes<140737488355328) (X:1<=bytes) (Y:base<=w.heap.size)
 (F: ∀v' w',w'.ownsRow base e d v' (n+l.length) (h++l.flatMap enc)->w.grownBy w' v.ownBlock->r (a.put o.dst v') w'):o.wp P a w r Q:=by
 obtain⟨g,c,rfl,H,p⟩:=U;cases g with
 |none=>
  have f:l= []:=by
   by_cases f:l= []
   ·exact f
   ·obtain⟨_,_,e,_⟩:=p f;cases e
  subst f;obtain rfl:=H.2.2 rfl;have I:=run_append_owned_none (P:=P) (w:=w) base t o.type e i d B C v n h m;unfold Oper.wp;simp[execOp,A,resolve,invoke,builtin,D,E,I,Result.andThen];exact F v w (by simpa using m) ⟨rfl,rfl,rfl,Nt _,λ_ _ _=>rfl⟩
 |some g=>
  have J: ∀j u,(l.flatMap enc)[j]?=some u->w.cell? (g.add j)=some u:=λj u q=>by
   by_cases f:l= []
   ·subst f;simp at q
   ·obtain⟨b,o',e,_,K⟩:=p f
    injection e with e;subst e
    rw[pK];exact K j u q
  have Z:n+l.length<=(n+l.length)*bytes:=Nat.le_mul_of_pos_right _ X
  exact wp_append_own w s x t A base e i z d bytes B C N O R S T v n h D m g l.length c (l.flatMap enc) E (fn V l) J (λy k=>by
   obtain⟨x,_,k⟩:=List.mem_flatMap.1 k;exact W x y k) (by unfold maxLen;omega) zo Y (λv' w' L M _=>F v' w' L M)
def ci{α:Type}{c:Nat}{enc:α->List Qn}{P:Program}{w:Qm}{ops:Array Oper}{rest:List Oper}{o:Oper}{a:Act}{Q:Exit->Act->Qm->Prop}(j:o.guard=none)(s x:Operand)(t:Qp)
 (k:o.op= .call {callee:= .builtin .append,args:=#[s,x],argTypes:=#[t,t]})
 (base:Nat) (e:Qp) (i:TypeInfo) (z:Qn) (bytes:Nat) (m:P.underlying t=some (.slice e)) (p:P.info? e=some i) (q:i.zero=some z) (r:i.size=c) (A:i.bytes=bytes) (B:z.cells.size=c) (C:1<=c)
 (v u:Qn) (n:Nat) (d:List Qn) (l:List α) (D:a.eval s=v) (E:w.ownsRow base e c v n d) (F:a.eval x=u) (H:aB c enc w u l) (I: ∀x,(enc x).length=c) (J: ∀x,∀y∈enc x,y.oneCell'=true)
 (K:(n+l.length)*bytes<140737488355328) (L:1<=bytes) (M:base<=w.heap.size)
 (N: ∀v' w',w'.ownsRow base e c v' (n+l.length) (d++l.flatMap enc)->w.grownBy w' v.ownBlock->wpList P ops Q rest (a.put o.dst v') w'):wpList P ops Q (o::rest) a w:=
 Pr j λ_ f=>cY s x t k base e i z bytes m p q r A B C v u n d l D E F H I J K L M λv' w' g h=>f _ _ (N v' w' g h)
def Fa{w0 w w':Qm}{F:Nat->Prop}{B:Nat}{row:Option Nat}(a:Ch F w0 w)(c:w.grownBy w' row)(h:w0.heap.size<=B)(g: ∀k,row=some k->B<=k):Ch F w0 w':=
 ⟨c.os.trans a.os,c.tape.trans a.tape,c.output.trans a.output,Nq a.size c.size,λk d f=>(c.block k (No d a.size) (λe=>by have:=g k e.symm;omega)).trans (a.block k d f)⟩
def fQ{w0 w w':Qm}{F:Nat->Prop}{row:Option Nat}(a:Ch F w0 w)(c:w.grownBy w' row)(g: ∀k,row=some k->F k\/w0.heap.size<=k):Ch F w0 w':=
 ⟨c.os.trans a.os,c.tape.trans a.tape,c.output.trans a.output,Nq a.size c.size,λk d f=>(c.block k (No d a.size) (λe=>(g k e.symm).elim f (λa=>zo))).trans (a.block k d f)⟩
def aP{w0 w:Qm}{F:Nat->Prop}{p:Addr}{y:Qn}(a:Ch F w0 w)(c:F p.block\/w0.heap.size<=p.block):Ch F w0 (w.setCell p y):=
 ⟨a.os,a.tape,a.output,by simpa using a.size,λk f d=>(af _ (λe=>by subst e;rcases c with c|c;exact d c;omega)).trans (a.block k f d)⟩
structure WV where
 text:Qt
 line:Int
 col:Int
def WV.cells(x:WV):List Qn:= [.string x.text,.int .i64 x.line,.int .i64 x.col]
def px(n:Nat):Bool:=decide (n=32)||decide (n=9)
def AK(n:Nat):Bool:=decide (32<n)&&decide (n<127)
def nw(n:Nat)(w:Qm)(a:n<=255):Qo zP 387 #[.int .u8 n] w (aK w (.bool (px n))):=by
 go_enter func387,ntmps387;go_wp2
 all_goals go_ret
 all_goals exact⟨bu (by unfold px;rw[PA];simp;omega),ND _ _⟩
def yc(n:Nat)(w:Qm)(a:n<=255):Qo zP 388 #[.int .u8 n] w (aK w (.bool (AK n))):=by
 go_enter func388,ntmps388;go_wp2
 all_goals go_ret
 all_goals exact⟨bu (by unfold AK;rw[PA];simp;omega),ND _ _⟩
def eg(s:Qt)(n:Int):Nat->Option (List WV×Option Nat)
 |0=>some ([],none)
 |k+1=>match eg s n k with
  |none=>none
  |some (l,b)=>
   let c:=(s.data.toList.getD k 0).toNat
   if px c then some (l,none) else if AK c then
    match b with
    |none=>some (l++ [⟨s.extract k (k+1),n,k+1⟩],some k)
    |some i=>some (l.dropLast++ [{l.getLastD ⟨ByteArray.empty,0,0⟩ with text:=s.extract i (k+1)}],some i)
   else none
def qx{s:Qt}{n:Int}{k:Nat}(a:eg s n k=none): ∀j,eg s n (k+j)=none
 |0=>a
 |j+1=>by show(match eg s n (k+j) with|none=>none|some (l,b)=>_)=none;rw[qx a j]
def lw:List WV->List WV
 | []=> []
 |x::l=>if x.text.data.toList.head?=some 35 then [] else x::lw l
def kT(s:Qt)(n:Int):Option (List WV):=(eg s n s.size).map λp=>lw p.1
def Kg:Option Nat->Qn
 |none=> .int .i64 (-1)
 |some i=> .int .i64 i
def je{s:Qt}{n:Int}: ∀{k:Nat} {l:List WV} {b:Option Nat},eg s n k=some (l,b)->l.length<=k/\ ∀i,b=some i->l≠ []/\i<k
 |0,l,b,a=>by simp only[eg,OF,Pb] at a;obtain⟨rfl,rfl⟩:=a;simp
 |k+1,l,b,a=>by
  unfold eg at a;cases h0:eg s n k with
  |none=>rw[h0] at a;cases a
  |some p=>
   obtain⟨h,c⟩:=p;obtain⟨j,d⟩:=je h0;rw[h0] at a;dsimp only at a;split at a
   ·simp only[OF,Pb] at a;obtain⟨rfl,rfl⟩:=a;exact⟨zo,zm⟩
   ·split at a
    ·cases c with
     |none=>simp only[OF,Pb] at a;obtain⟨rfl,rfl⟩:=a;exact⟨by simp;omega,λi e=>by injection e with e;exact⟨zm,zo⟩⟩
     |some f=>
      simp only[OF,Pb] at a;obtain⟨rfl,rfl⟩:=a;obtain⟨g,m⟩:=d f rfl;have:=Ps.2 g;exact⟨by simp;omega,λi e=>by injection e with e;exact⟨zm,zo⟩⟩
    ·cases a
def qy{s:Qt}{n:Int}: ∀{k:Nat} {l:List WV} {b:Option Nat},k<=s.size->eg s n k=some (l,b)-> ∀x∈l,1<=x.text.size/\x.text.size<=s.size
 |0,l,b,_,a=>by simp only[eg,OF,Pb] at a;obtain⟨rfl,rfl⟩:=a;simp
 |k+1,l,b,h,a=>by
  unfold eg at a;cases h0:eg s n k with
  |none=>rw[h0] at a;cases a
  |some p=>
   obtain⟨i,e⟩:=p;have d:=qy zo h0;obtain⟨_,f⟩:=je h0;rw[h0] at a;dsimp only at a;split at a
   ·simp only[OF,Pb] at a;obtain⟨rfl,rfl⟩:=a;exact d
   ·split at a
    ·cases e with
     |none=>
      simp only[OF,Pb] at a;obtain⟨rfl,rfl⟩:=a;intro x c;rcases Og.1 c with c|c
      ·exact d x c
      ·simp at c;subst c;simp;omega
     |some g=>
      simp only[OF,Pb] at a;obtain⟨rfl,rfl⟩:=a;have:=(f g rfl).2;intro x c;rcases Og.1 c with c|c
      ·exact d x (List.dropLast_subset _ c)
      ·simp at c;subst c;simp;omega
    ·cases a
def nx:(zP.info? 319).map (λi=>(i.zero,i.size,i.bytes))=some (some (.agg #[ByteArray.empty,(),()]),3,32):=zk
def Le(w:Qm)(r:Option (List WV))(e:Qq)(w':Qm):Prop:=
 Qs (Qr w.heap.size w w')/\match r with
 |none=>e= .returned (.tuple #[z0,false])
 |some l=> ∃v,e= .returned (.tuple #[v,true])/\aB 3 WV.cells w' v l/\iX w.heap.size v
def yd{s:Qt}{n:Int}{k:Nat}(c:k<=s.size)(a:eg s n k=none):kT s n=none:=by
 have:=qx a (s.size-k);rw[(zo:k+(s.size-k)=s.size)] at this;unfold kT;rw[this];rfl
def Fb(s:Qt)(n:Int)(w:Qm)(e2:s.size<=100000)(e3:0<=n/\n<=1000000):
 Qo zP 323 #[s,n] w (Le w (kT s n)):=by
 obtain⟨b3,b4,b5,b6,b7⟩:=info_parts nx;go_enter func323,ntmps323;go_wp2_with fail;go_loopw [6,7,14] (λv b i wr=> ∃(k:Nat) (l:List WV) (x:Option Nat),k<=s.size/\i= .int .i64 k/\b=Kg x/\Qs (eg s n k=some (l,x))/\Qs (wr.ownsRow w.heap.size 319 3 v l.length (l.flatMap WV.cells))/\Qr w.heap.size w wr) (λ_ _ i _=>s.size-(intOf i).toNat)
 case atStart=>exact⟨0,[],none,Nx _,rfl,rfl,zh rfl,zh zw,ND _ _⟩
 case round=>
  obtain⟨k,l,x,L,rfl,rfl,m,M,N⟩:=hrel;obtain⟨c6,T⟩:=je m;by_cases U:k<s.size
  ·obtain⟨q,p⟩:=zy (px s[k].toNat)
   obtain⟨u,E⟩:=zy (AK s[k].toNat);have c7:0<=(s[k].toNat:Int)/\(s[k].toNat:Int)<=255:=by have:=s[k].toNat_lt;omega
   have F:=zh (show(s.data.toList.getD k 0).toNat=s[k].toNat by simp[U,NY]);go_wp2_with fail;refine zb (nw _ _ zo) λc8 V=>?_
   rw[<-p];have W:=ai N V;have X:=aS M V;clear N;cases q
   ·go_wp2_with fail
    refine zb (yc _ _ zo) λc9 Y=>?_
    rw[<-E];have B2:=ai W Y;have b8:=aS X Y;cases u
    ·go_wp2
     go_ret2;refine⟨B2,?_⟩;rw[yd (show k+1<=s.size from U) (by unfold eg;rw[m];dsimp only;rw[F,<-p,<-E];rfl)];exact rfl
    ·go_wp2_with fail
     refine zb (nw _ _ zo) λH B=>?_
     rw[<-p];have r:=ai B2 B;have A:=aS b8 B;cases x with
     |none=>
      dsimp only[Kg];have C:=zh (show eg s n (k+1)=some (l++ [⟨s.extract k (k+1),n,k+1⟩],some k) by unfold eg;rw[m];dsimp only;rw[F,<-p,<-E];rfl);go_wp2_with (at_builtin;refine wpList_append_own _ rfl _ _ 411 rfl w.heap.size 319 b3 (.agg #[ByteArray.empty,(),()]) 3 32 underlying411 b4 b5 b6 b7 rfl zd _ _ _ rfl ((A).alloc _) ⟨H.heap.size,0,none⟩ 1 1 (WV.cells ⟨s.extract k (k+1),n,k+1⟩) rfl ?qc1 ?qc2 ?qc3 ?qc4 ?qc5 ?qc6 ?_)
      case qc1=>rfl
      case qc2=>exact λj u f=>ks _ _ _ j u f
      case qc3=>intro u Z;simp only[WV.cells,NL,NJ,Ou] at Z;rcases Z with rfl|rfl|rfl<;>rfl
      case qc4=>unfold maxLen;omega
      case qc5=>omega
      case qc6=>have:=r.size;simp;omega
      intro v' a0 a1 a2 b9;have O:=zh (show a0.ownsRow w.heap.size 319 3 v' (l++ [(⟨s.extract k (k+1),n,k+1⟩:WV)]).length ((l++ [(⟨s.extract k (k+1),n,k+1⟩:WV)]).flatMap WV.cells) by simpa using a1);have P:=zh (show Qr w.heap.size w a0 from(r.alloc (r.size) _).grown a2 (by have:=r.size;simp;omega) (by intro k L;have:=World.ownsRow.lt A k L;omega));clear a1 a2 b9;go_wp2;go_roundw
      case rel=>exact⟨k+1,_,_,zo,by go_num,rfl,C,O,P⟩
      case measure=>simp[intOf];omega
     |some i=>
      dsimp only[Kg];obtain⟨a3,d0⟩:=T i rfl;obtain⟨d,y,rfl⟩: ∃d y,l=d++ [y]:=⟨l.dropLast,l.getLast a3,(List.dropLast_concat_getLast a3).symm⟩;have C:=zh (show eg s n (k+1)=some (d++ [{y with text:=s.extract i (k+1)}],some i) by unfold eg;rw[m];dsimp only;rw[F,<-p,<-E];simp);obtain⟨g,cap,rfl,c1,d1,a4,c2,a5,t⟩:=dr A zm;have a6:=zh (show((d++ [y]).flatMap WV.cells)[d.length*3]?=some (.string y.text) from jR (k:=3) (i:=0) (λ_=>rfl) (j:=d.length) (x:=y) zm rfl);have d2:=t _ _ a6;have d3:=a5 (d.length*3);rw[Nw,NS] at a4;clear a5 t
      have O:=zh (show(H.setCell ⟨g,d.length*3,none⟩ (.string (s.extract i (k+1)))).ownsRow w.heap.size 319 3 (.slice (some ⟨g,0,none⟩) (d++ [y]).length cap) (d++ [({y with text:=s.extract i (k+1)}:WV)]).length ((d++ [({y with text:=s.extract i (k+1)}:WV)]).flatMap WV.cells) by
       have f:=AJ (y:= .string (s.extract i (k+1))) A (Ny.1 a6).1
       have e:((d++ [y]).flatMap WV.cells).set (d.length*3) (.string (s.extract i (k+1)))=(d++ [({y with text:=s.extract i (k+1)}:WV)]).flatMap WV.cells:=by
        rw[NK,NK,List.set_append_right _ _ (by rw[fn (k:=3) (λ_=>rfl)];omega),fn (k:=3) (λ_=>rfl),Ql];rfl
       rw[e] at f;simpa using f)
      have P:=zh (show Qr w.heap.size w (H.setCell ⟨g,d.length*3,none⟩ (.string (s.extract i (k+1)))) from ao r c1);go_wp2_with fail;go_roundw
      case rel=>exact⟨k+1,_,some i,zo,by go_num,rfl,C,O,P⟩
      case measure=>simp[intOf];omega
   ·go_wp2_with fail
    refine zb (nw _ _ zo) λH B=>?_
    rw[<-p];have r:=ai W B;have A:=aS X B;have C:=zh (show eg s n (k+1)=some (l,none) by unfold eg;rw[m];dsimp only;rw[F,<-p];rfl);go_wp2;go_roundw
    case rel=>exact⟨k+1,l,none,zo,by go_num,rfl,C,A,r⟩
    case measure=>simp[intOf];omega
  ·have a7:k=s.size:=zo
   have a8:=zh (show kT s n=some (lw l) by unfold kT;rw[<-a7,m];rfl);have c3:=zh (qy L m);clear a7 T;have d4:l.length<=100000:=zo;obtain⟨a,cap,rfl⟩:=az M;have I:=aB.own (enc:=WV.cells) M
   obtain⟨a4,c2⟩:l.length<=cap/\cap<=9223372036854775807:=by
    obtain⟨_,c',e,f,_⟩:=I.1;injection e with _ _ e;subst e;exact⟨f.1,f.2.1⟩
   go_wp2_with fail;go_loopw [62] (λi a9=> ∃(j:Nat),j<=l.length/\i= .int .i64 j/\Qs (lw l=l.take j++lw (l.drop j))/\Qs (aB 3 WV.cells a9 (.slice a l.length cap) l)/\Qr w.heap.size w a9) (λi _=>l.length-(intOf i).toNat)
   case atStart=>exact⟨0,Nx _,rfl,zh rfl,zh I.1,N⟩
   case round=>
    obtain⟨j,c4,rfl,Q,J,R⟩:=hrel;by_cases S:j<l.length
    ·obtain⟨y,K⟩: ∃y,l[j]?=some y:=⟨_,Np S⟩
     obtain⟨b,o,rfl,d5,t⟩:=J.elem (k:=3) (λ_=>rfl) K;have c0:=t 0 (Value.string y.text) rfl;have d6:=t 1 (Value.int .i64 y.line) rfl;have d7:=t 2 (Value.int .i64 y.col) rfl;rw[NR] at c0;have d8:=c3 y (NO K);have d9:0<y.text.size:=zo;have b0:=zh K;clear K t
     have b1:y.text.data.toList.head?=some y.text[0]:=by
      rw[List.head?_eq_getElem?];simp[NY]
     have b2:=zh (show lw (l.drop j)=if y.text[0].toNat=35 then [] else y::lw (l.drop (j+1)) by
      have e:=Ny.1 b0;rw[Oo S,e.2];show(if y.text.data.toList.head?=some 35 then [] else y::lw (l.drop (j+1)))=_;rw[b1];by_cases h:y.text[0].toNat=35
      ·rw[NH h,NH (by rw[<-UInt8.toNat_inj.1 (show y.text[0].toNat=(35:UInt8).toNat from h)])]
      ·rw[NB h,NB (λf=>h (by injection f with f;rw[f];rfl))])
     clear b1;by_cases h:y.text[0].toNat=35
     ·have c5:((y.text[0].toNat:Int)==35)=true:=by rw[beq_iff_eq];omega
      have D:=zh (show lw l=l.take j by rw[Q,b2,NH h,OJ]);clear h;have e0:j<=cap:=zo;have e1: ¬cap=0:=zo;go_wp2_with fail;go_ret2;refine⟨ai R ze,?_⟩;rw[a8,D];exact⟨_,rfl,(J.take c4).below ze,λb o s n c e=>by injection e with e;exact I.2 b _ _ _ _ (by rw[e])⟩
     ·have c5:((y.text[0].toNat:Int)==35)=false:=by rw[Od];omega
      have D:=zh (show lw l=l.take (j+1)++lw (l.drop (j+1)) by
       rw[Q,b2,NB h];have e:=Ny.1 b0;rw[NE S,e.2];simp)
      clear h;go_wp2_with fail;go_roundw
      case rel=>exact⟨j+1,zo,by go_num,D,(J.below ze),ai R ze⟩
      case measure=>simp[intOf];omega
    ·have D:=zh (show lw l=l by
      have:=Q.out;rw[NC zo,Px zo] at this;rw[this];simp[lw])
     go_wp2_with fail;go_ret2;refine⟨R,?_⟩;rw[a8,D];exact⟨_,rfl,J,I.2⟩
def gq(w:Qm)(p:Nat)(at_:Nat)(l:List WV):Prop:=
 ∃v,w.heap[p]?=some (.cells #[(at_:Int),v] 413)/\aB 3 WV.cells w v l/\(∀b,aD v b->b≠p)/\at_<=l.length/\l.length<=100000000
def gq.below{w w':Qm}{p k:Nat}{l:List WV}(f:gq w p k l)(a:Qr w.heap.size w w'):gq w' p k l:=by
 obtain⟨v,c,d,e⟩:=f;exact⟨v,ab c a,d.below a,e⟩
def gq.lt{w:Qm}{p k:Nat}{l:List WV}(c:gq w p k l):p<w.heap.size:=by obtain⟨v,a,_⟩:=c;exact aa a
def gq.cell{w:Qm}{p k:Nat}{l:List WV}(c:gq w p k l):w.cell? ⟨p,0,none⟩=some (.int .i64 k):=by obtain⟨v,a,_⟩:=c;exact(bE a).1
def gq.of{w wr:Qm}{p a:Nat}{v:Qn}{l:List WV}(d:aB 3 WV.cells w v l)(c: ∀b,aD v b->b≠p)(e:Ch (·=p) w wr)(f:wr.heap[p]?=some (.cells #[(a:Int),v] 413))(g:a<=l.length)(h:l.length<=100000000):gq wr p a l:=
 ⟨v,f,d.ch e c,c,g,h⟩
def qz{w:Qm}{p k:Nat}{l:List WV}(h:gq w p k l):Qo zP 247 #[p] w (aK w (.int .i64 (l.length-k:Nat))):=by
 obtain⟨v,d,⟨a,c,rfl,i,_⟩,_,j,m⟩:=h;obtain⟨c0,n⟩:=bE d;have o:=aa d;clear d;go_enter func247,ntmps247;go_wp2_with fail;refine zJ w 12 (zL [?_,?_,?_,?_,?_,?_,?_,?_,?_,?_,?_,?_]) zq ?_;rotate_right
 iterate 12
  refine zV ?_
 refine zD λq e f=>?_
 have g:=zh e.1;clear e f;go_wp2;go_ret;exact⟨bp (by rw[IntKind.wrap_i64];omega),g⟩
def WV.zero:WV:=⟨⟨#[]⟩,0,0⟩
def WV.val(x:WV):Qn:= .agg #[x.text,(x.line:Int),(x.col:Int)]
def jx:Option WV->Qn
 |none=> .tuple #[WV.zero.val,false]
 |some x=> .tuple #[x.val,true]
def iJ{w:Qm}{p k:Nat}{l:List WV}(M:gq w p k l):Qo zP 248 #[p] w (aK w (jx l[k]?)):=by
 have H:=zh M;obtain⟨v,r,x,_,R,S⟩:=M;obtain⟨c0,A⟩:=bE r;have B:=aa r;have C:=x;obtain⟨a,c,rfl,N,_⟩:=x;clear r;by_cases D:k<l.length
 ·obtain⟨y,j⟩: ∃y,l[k]?=some y:=⟨_,Np D⟩
  obtain⟨b,o,rfl,E,m⟩:=C.elem (k:=3) (λ_=>rfl) j;have s:=m 0 (Value.string y.text) rfl;have F:=m 1 (Value.int .i64 y.line) rfl;have I:=m 2 (Value.int .i64 y.col) rfl;rw[NR] at s;have T:(((l.length-k:Nat):Int)==0)=false:=by rw[Od];omega
  have U:=zh j;rw[j];clear j m C;go_enter func248,ntmps248;go_wp2_with fail;refine zb (qz (H.below ze)) λn t=>?_
  obtain⟨d,e⟩:=bl t;obtain⟨g,h,i⟩:=aW d;have J:=ad (o:=0) d;have K:=ad (o:=1) d;have L:=ad (o:=2) d;have c0:=ae c0 e;have A:=ae A e;have s:=ae s e;have F:=ae F e;have I:=ae I e;have B:p<n.heap.size:=No B e.size;have E:b<n.heap.size:=No E e.size;have u:=aa d;have q:=zh e;clear e d;go_wp2_with fail;refine zJ n 11 (zL [?_,?_,?_,?_,?_,?_,?_,?_,?_,?_,?_]) zq ?_;rotate_right
  iterate 11
   refine zV ?_
  refine kn zk rfl rfl (λV f O _=>?_);have g:=ae g f.1;have h:=ae h f.1;have i:=ae i f.1;have W:=(f.1.frozen (p:=⟨w.heap.size,0,none⟩) u).trans J;have X:=(f.1.frozen (p:=⟨w.heap.size,1,none⟩) u).trans K;have Y:=(f.1.frozen (p:=⟨w.heap.size,2,none⟩) u).trans L;have P:=aI q f.1 q.size;clear f O;go_wp2;refine NG (v:=jx (some y)) (by simp[results,results248,go_sem,g,h,i,jx,WV.val]) rfl ⟨rfl,?_⟩;exact ao (ao (ao P zl) zl) zl
 ·obtain rfl:k=l.length:=zo
  have Q:=zh (show l[l.length]?=none from OW zl);rw[Q];clear D N;go_enter func248,ntmps248;go_wp2_with fail;refine zb (qz (H.below ze)) λn t=>?_
  obtain⟨d,e⟩:=bl t;obtain⟨g,h,i⟩:=aW d;have J:=ad (o:=0) d;have K:=ad (o:=1) d;have L:=ad (o:=2) d;have q:=zh e;clear e d;rw[Ql];go_wp2;refine NG (v:=jx none) (by simp[results,results248,go_sem,g,h,i,jx,WV.val,WV.zero]) rfl ⟨rfl,?_⟩;exact ao (ao (ao q zl) zl) zl
def Lf(w:Qm)(p k:Nat)(l:List WV)(e:Qq)(w':Qm):Prop:=e= .returned (jx l[k]?)/\gq w' p (k+1) l/\Qs (∀v T,w.heap[p]?=some (.cells #[(k:Int),v] T)->w'.heap[p]?=some (.cells #[((k+1:Nat):Int),v] T))/\Qs (Ch (·=p) w w')
def gq.next{w w':Qm}{p k:Nat}{l:List WV}(h:gq w p k l)(i:k<l.length)(j:w.heap.size<=w'.heap.size)(m: ∀v T,w.heap[p]?=some (.cells #[(k:Int),v] T)->w'.heap[p]?=some (.cells #[((k+1:Nat):Int),v] T))(n: ∀b,b<w.heap.size->b≠p->w'.heap[b]?=w.heap[b]?):gq w' p (k+1) l:=by
 obtain⟨v,c,d,a,o,e⟩:=h;exact⟨v,m _ _ c,d.step j λb f g=>n b g (a b f),a,i,e⟩
def vK{w:Qm}{p k:Nat}{l:List WV}(n:gq w p k l)(x:k<l.length):Qo zP 389 #[p] w (Lf w p k l):=by
 have H:=zh n;have N:=n.lt;obtain⟨v,q,_,_,_,O⟩:=n;obtain⟨y,r⟩: ∃y,l[k]?=some y:=⟨_,Np x⟩;have s:=zh r;have A:=zh q;clear q r;go_enter func389,ntmps389;go_wp2_with fail;refine zb (iJ (H.below ze)) λf B=>?_
 rw[s];dsimp only[jx,WV.val];obtain⟨a,h⟩:=bl B;obtain⟨C,D,E⟩:=aW a;have P:=ad (o:=0) a;have Q:=ad (o:=1) a;have R:=ad (o:=2) a;have g:=ab A h;obtain⟨c0,S⟩:=bE g;have U:=ad (o:=0) g;have V:w.heap.size≠p:=zo;have W:p≠w.heap.size:=zo;have X:=aa a;have Y:=aa g;have Z:f.heap.size≠p:=zo;have a0:p≠f.heap.size:=zo;have a1:w.heap.size≠f.heap.size:=zo;have a2:f.heap.size≠w.heap.size:=zo;have c:=zh h;have F:=zh a;clear h a g;go_wp2;obtain⟨d,e⟩:=zx (((((f.setCell ⟨p,0,none⟩ (.int .i64 (k+1))).setCell ⟨w.heap.size,0,none⟩ (.string y.text)).setCell ⟨w.heap.size,1,none⟩ (.int .i64 y.line)).setCell ⟨w.heap.size,2,none⟩ (.int .i64 y.col)).alloc (.cells #[y.text,(y.line:Int),(y.col:Int)] 319));rw[<-e]
 have I:d.heap[w.heap.size]?=some (.cells #[y.text,(y.line:Int),(y.col:Int)] 319):=by
  rw[e];exact ab (bW _ _ _ (by rw[af _ zo];exact F)) ze
 have a3:f.heap.size<=d.heap.size:=by rw[e];simp
 have t: ∀b,b<w.heap.size->b≠p->d.heap[b]?=w.heap[b]?:=λb i j=>by
  rw[e,<-c.block b i,PF ze b (by simp;have:=c.size;omega),aR _ _ _ zo,af _ j]
 have u: ∀v T,w.heap[p]?=some (.cells #[(k:Int),v] T)->d.heap[p]?=some (.cells #[((k+1:Nat):Int),v] T):=λv T J=>by
  rw[e];refine ab ?_ ze;rw[aR _ _ _ zo,al (ab J c)];simp
 have m:d.os=w.os/\d.tape=w.tape/\d.output=w.output:=by rw[e];exact⟨c.os,c.tape,c.output⟩
 clear e C D E;obtain⟨K,L,M⟩:=aW I;have a4:=c.size;refine NG (v:=jx (some y)) (by simp[results,results389,go_sem,K,L,M,jx,WV.val]) rfl ⟨by rw[s],H.next x zo u t,u,m.1,m.2.1,m.2.2,zo,λb i j=>t b i j⟩
def dW:List WV->List WV
 | []=> []
 |x::r=>x::r.takeWhile (λy=>y.line==x.line)
def mj(l:List WV)(j:Nat):List WV:=match l with
 | []=> []
 |x::r=>if j=0 then x::r.takeWhile (λy=>y.line==x.line) else(r.drop (j-1)).takeWhile (λy=>y.line==x.line)
def ye(l:List WV):mj l 0=dW l:=by cases l<;>rfl
def qA{l:List WV}{j:Nat}{y:WV}(a:l[j]?=some y)(f: ∀x,l.head?=some x->j≠0->y.line=x.line):mj l j=y::mj l (j+1):=by
 cases l with
 |nil=>simp at a
 |cons x r=>
  cases j with
  |zero=>simp at a;subst a;simp[mj]
  |succ j=>
   have c:r[j]?=some y:=by simpa using a
   obtain⟨d,e⟩:=Ny.1 c;have:=f x rfl zo;simp only[mj,Nat.add_sub_cancel,NB (Pm _)];rw[Oo d,List.takeWhile_cons,e,this];simp
def sD{l:List WV}{j:Nat}(a:l[j]?=none\/ ∃x y,l.head?=some x/\l[j]?=some y/\j≠0/\y.line≠x.line):mj l j= []:=by
 cases l with
 |nil=>rfl
 |cons x r=>
  rcases a with a|⟨x',y,c,d,e,f⟩
  ·simp at a
   cases j with
   |zero=>simp at a
   |succ j=>simp only[mj,Nat.add_sub_cancel,NB (Pm _)];rw[Px (by simp at a;omega)];rfl
  ·simp at c;subst c
   cases j with
   |zero=>exact absurd rfl e
   |succ j=>
    have g:r[j]?=some y:=by simpa using d
    obtain⟨h,i⟩:=Ny.1 g;simp only[mj,Nat.add_sub_cancel,NB (Pm _)];rw[Oo h,List.takeWhile_cons,i];simp[f]
def Kh(w:Qm)(p k:Nat)(l:List WV)(e:Qq)(w':Qm):Prop:= ∃v,e= .returned v/\aB 3 WV.cells w' v (dW (l.drop k))/\iX w.heap.size v/\gq w' p (k+(dW (l.drop k)).length) l/\Ch (·=p) w w'/\ ∃a,w.heap[p]?=some (.cells #[(k:Int),a] 413)/\w'.heap[p]?=some (.cells #[((k+(dW (l.drop k)).length:Nat):Int),a] 413)
def pk(o:Option WV):WV:=o.getD WV.zero
def qB(o:Option WV):jx o= .tuple #[(pk o).val,o.isSome]:=by cases o<;>rfl
def sE{w:Qm}{p k:Nat}{l:List WV}(c:gq w p k l):Qo zP 324 #[p] w (Kh w p k l):=by
 have H:=zh c;have f2:=c.lt;obtain⟨b6,d5,d6,d7,-⟩:=c;have b7:=zh d5;have V:=zh d6;have W:=zh d7;clear d5 d6 d7;have c:=H.out;obtain⟨d8,d9,e0,e1,a9⟩:=info_parts nx;obtain⟨f3,X⟩:k<=l.length/\l.length<=100000000:=by obtain⟨_,_,_,_,c⟩:=c;exact c
 clear c;go_enter func324,ntmps324;go_wp2_with fail;refine zb (iJ H) λe2 b0=>?_
 have f4:=H.below b0;have g8:=f4.lt;obtain⟨o,b8⟩:=zy (l[k]?);rw[<-b8,qB];dsimp only[WV.val];go_wp2_with fail;go_loopw [3,4,5] (λv x b wr=> ∃(j K:Nat) (y:WV) (q:Bool),k+j<=l.length/\x= .pointer (some ⟨K,0,none⟩)/\b= .bool q/\Qs (y=pk l[k+j]?/\q=l[k+j]?.isSome)/\Qs (wr.ownsRow w.heap.size 319 3 v j (((l.drop k).take j).flatMap WV.cells))/\Qs (wr.heap[p]?=some (.cells #[((k+j:Nat):Int),b6] 413))/\Qs (wr.heap[K]?=some (.cells #[y.text,(y.line:Int),(y.col:Int)] 319))/\Qs (dW (l.drop k)=(l.drop k).take j++mj (l.drop k) j)/\Qs (Ch (·=p) w wr)/\(w.heap.size<=K/\p<w.heap.size)/\Qs (v.ownBlock≠some K)) (λ_ _ _ wr=>l.length-(intOf ((wr.cell? ⟨p,0,none⟩).getD undef)).toNat)
 case atStart=>exact⟨0,_,_,_,f3,rfl,rfl,zh ⟨by rw[NR,b8],by rw[NR,b8]⟩,zh (by simpa using World.ownsRow_nil _ _ _ _),zh (ab (ab b7 b0) ze),zh (ag rfl),zh (by rw[ye];rfl),(Ch.fresh (ai b0 ze)),⟨b0.size,f2⟩,zh (by simp[Value.ownBlock])⟩
 case round=>
  obtain⟨j,K,y,q,b9,rfl,rfl,e3,J,Y,b1,b2,m,⟨g9,b3⟩,e4⟩:=hrel;have Z:=Y;have Y:=zh (gq.of V W m Z b9 X);have c0:=Y.cell;have h0:=aa b1;obtain⟨B,C,D⟩:=aW b1;cases q
  ·have L:=zh (show dW (l.drop k)=(l.drop k).take j by
    rw[b2,sD (.inl (by rw[OL];have:=e3.2;cases c:l[k+j]? with|none=>rfl|some _=>rw[c] at this;cases this)),OJ])
   go_wp2_with fail;refine zJ wr 15 (zL [?_,?_,?_,?_,?_,?_,?_,?_,?_,?_,?_,?_,?_,?_,?_]) zq ?_;rotate_right
   iterate 2
    refine zV ?_
   iterate 12
    refine aw zk rfl rfl ?_ ?_
    ·intro e2 f E f5 c1;rw[NB (by simp[Region.wanted,yielded,undef])];exact c1.out _ _ (by rfl) zr
    simp only[zS]
   refine zV ?_;refine zD λF f E=>?_
   have d:=zh f.1;clear f E;go_wp2;go_ret;have M:((l.drop k).take j).length=j:=by rw[NP,OB];omega
   have a0:=aS J d;refine⟨_,rfl,?_,cP a0,?_,m.trans (Ch.fresh d),b6,b7,by rw[L,M];exact ab Z d⟩
   ·rw[L];exact(aB.own (by rw[M];exact a0)).1
   ·rw[L,M];exact Y.below d
  ·obtain⟨e5,b4⟩:l[k+j]?=some y/\k+j<l.length:=by
    obtain⟨e6,e7⟩:=e3.out;cases c:l[k+j]? with
    |none=>rw[c] at e7;cases e7
    |some z=>rw[c] at e6;exact⟨by rw[e6];rfl,(Ny.1 c).1⟩
   have N:=zh e5;obtain⟨e8,b5,rfl⟩:=az J;clear e5;by_cases O:j=0
   ·have f6:((j:Int)==0)=true:=by rw[O];rfl
    have e9:=zh O;have c2:=zh (qA (l:=l.drop k) (j:=j) (y:=y) (by rw[OL];exact N) (λ_ _ c=>absurd O c));clear O;go_wp2_with fail;refine zJ wr 15 (zL [?_,?_,?_,?_,?_,?_,?_,?_,?_,?_,?_,?_,?_,?_,?_]) zq ?_;rotate_right
    iterate 6
     refine zV ?_
    iterate 7
     refine aw zk rfl rfl ?_ ?_
     ·intro e2 f E f5 c1;rw[NB (by simp[Region.wanted,yielded,undef])];exact c1.out _ _ (by rfl) zr
     simp only[zS]
    iterate 2
     refine zV ?_
    refine zD λF f E=>?_
    have d:=zh f.1;have B:=ae B f.1;have C:=ae C f.1;have D:=ae D f.1;clear f E;go_wp2_with (at_builtin;refine wpList_append_own _ rfl _ _ 411 rfl w.heap.size 319 d8 (.agg #[ByteArray.empty,(),()]) 3 32 underlying411 d9 e0 e1 a9 rfl zd _ _ _ rfl ((aS J d).alloc _) ⟨F.heap.size,0,none⟩ 1 1 (WV.cells y) rfl ?qc1 ?qc2 ?qc3 ?qc4 ?qc5 ?qc6 ?_)
    case qc1=>rfl
    case qc2=>exact λj u c=>ks _ _ _ j u c
    case qc3=>intro u a1;simp only[WV.cells,NL,NJ,Ou] at a1;rcases a1 with rfl|rfl|rfl<;>rfl
    case qc4=>unfold maxLen;omega
    case qc5=>omega
    case qc6=>have:=m.size;have:=d.size;simp;omega
    intro v' P a2 s c3;have f7:=m.size;have a9:=d.size;have a3:=World.ownsRow.lt J
    have I: ∀b,b<F.heap.size->(Value.slice e8 j b5).ownBlock≠some b->P.heap[b]?=F.heap[b]?:=λb t c4=>by
     rw[s.block b zu (λe=>c4 e.symm),PF ze b t]
    have Q: ∀b,b<w.heap.size->(Value.slice e8 j b5).ownBlock≠some b:=λb t e=>by have:=(a3 b e).1;omega
    have a4:=zh (show Ch (·=p) w P from⟨by rw[s.os];exact d.os.trans m.os,by rw[s.tape];exact d.tape.trans m.tape,by rw[s.output];exact d.output.trans m.output,by have:=s.size;simp at this;omega,λb t c5=>by rw[I b zo (Q b t),d.block b zo,m.block b t c5]⟩);have a5:=zh ((I p zo (Q p b3)).trans (ab Z d));have c6:=zh ((I K zo e4).trans (ab b1 d))
    have c7:=zh (show P.ownsRow w.heap.size 319 3 v' (j+1) (((l.drop k).take (j+1)).flatMap WV.cells) by
     rw[OH,OL,N,NK];simpa using a2)
    clear a2 s c3 a3 I Q;go_wp2_with fail;refine(vK (gq.of V W a4 a5 b9 X) b4).mono ?_;rintro e n ⟨rfl,-,c8,R⟩;have S:=zh (c8 _ _ a5);have T:=a4.trans R;have a6:=zh (fo c7 R (λb t e=>by subst e;omega));have c9:=R.keep c6 zo;clear B C D;obtain⟨B,C,D⟩:=aW c9;go_wp2_with fail;refine zb (iJ ((gq.of V W T S (show k+j+1<=l.length from b4) X).below ze)) λf8 d0=>?_
    obtain⟨r,a7⟩:=bl d0;obtain⟨h,U⟩:=zy (l[k+j+1]?);rw[<-U,qB];dsimp only[WV.val];obtain⟨f9,d1,g0⟩:=aW r;have g1:=ad (o:=0) r;have g2:=ad (o:=1) r;have g3:=ad (o:=2) r;have d2:=T.size;have g4:=aa r;have d3:=zh r;have a8:=zh a7;clear r a7 B C D;go_wp2_with fail;go_roundw
    case rel=>
     have A:=ao (u:= .int .i64 (pk h).col) (p:=⟨n.heap.size,2,none⟩) (ao (u:= .int .i64 (pk h).line) (p:=⟨n.heap.size,1,none⟩) (ao (u:= .string (pk h).text) (p:=⟨n.heap.size,0,none⟩) a8 zl) zl) zl;refine⟨j+1,n.heap.size,pk h,h.isSome,zo,rfl,rfl,zh ⟨by rw[U,OU],by rw[U,OU]⟩,(aS a6 A),zh (ab S A),zh (bW _ _ _ d3),zh ?_,(T.trans (Ch.fresh A)),⟨d2,b3⟩,zh (λe=>by have:=(World.ownsRow.lt a6 _ e).2;omega)⟩;rw[b2,c2,OH,OL,N];simp
    case measure=>
     have A:=ao (u:= .int .i64 (pk h).col) (p:=⟨n.heap.size,2,none⟩) (ao (u:= .int .i64 (pk h).line) (p:=⟨n.heap.size,1,none⟩) (ao (u:= .string (pk h).text) (p:=⟨n.heap.size,0,none⟩) a8 zl) zl) zl;rw[(bE (ab S A)).1,c0];simp[intOf];omega
   ·have f6:((j:Int)==0)=false:=by rw[Od];omega
    have g5:0<j:=zo;obtain⟨g,cap,e,h1,h2,h3,h4,-,f0⟩:=dr J O;injection e with d1 _ g6;subst d1 g6
    obtain⟨x,d4⟩: ∃x,(l.drop k).head?=some x:=by
     cases c:l.drop k with
     |nil=>have:=Of List.length c;simp at this;omega
     |cons a b=>exact⟨a,rfl⟩
    have h5:=f0 1 (.int .i64 x.line) (jR (k:=3) (λ_=>rfl) (j:=0) (i:=1) (x:=x) (by rw[Ow g5,<-List.head?_eq_getElem?];exact d4) rfl);have f1:=zh d4;have e9:=zh O;clear f0 O d4;by_cases hq:x.line=y.line
    ·have g7:(x.line==y.line)=true:=by rw[beq_iff_eq];exact hq
     have c2:=zh (qA (l:=l.drop k) (j:=j) (y:=y) (by rw[OL];exact N) (λx' c _=>by rw[f1] at c;injection c with c;rw[<-c,hq]));clear hq;go_wp2_with fail;refine zJ wr 15 (zL [?_,?_,?_,?_,?_,?_,?_,?_,?_,?_,?_,?_,?_,?_,?_]) zq ?_;rotate_right
     iterate 15
      refine zV ?_
     refine zD λF f E=>?_
     have d:=zh f.1;have B:=ae B f.1;have C:=ae C f.1;have D:=ae D f.1;clear f E;go_wp2_with (at_builtin;refine wpList_append_own _ rfl _ _ 411 rfl w.heap.size 319 d8 (.agg #[ByteArray.empty,(),()]) 3 32 underlying411 d9 e0 e1 a9 rfl zd _ _ _ rfl ((aS J d).alloc _) ⟨F.heap.size,0,none⟩ 1 1 (WV.cells y) rfl ?qc1 ?qc2 ?qc3 ?qc4 ?qc5 ?qc6 ?_)
     case qc1=>rfl
     case qc2=>exact λj u c=>ks _ _ _ j u c
     case qc3=>intro u a1;simp only[WV.cells,NL,NJ,Ou] at a1;rcases a1 with rfl|rfl|rfl<;>rfl
     case qc4=>unfold maxLen;omega
     case qc5=>omega
     case qc6=>have:=m.size;have:=d.size;simp;omega
     intro v' P a2 s c3;have f7:=m.size;have a9:=d.size;have a3:=World.ownsRow.lt J
     have I: ∀b,b<F.heap.size->(Value.slice (some ⟨g,0,none⟩) j b5).ownBlock≠some b->P.heap[b]?=F.heap[b]?:=λb t c4=>by
      rw[s.block b zu (λe=>c4 e.symm),PF ze b t]
     have Q: ∀b,b<w.heap.size->(Value.slice (some ⟨g,0,none⟩) j b5).ownBlock≠some b:=λb t e=>by have:=(a3 b e).1;omega
     have a4:=zh (show Ch (·=p) w P from⟨by rw[s.os];exact d.os.trans m.os,by rw[s.tape];exact d.tape.trans m.tape,by rw[s.output];exact d.output.trans m.output,by have:=s.size;simp at this;omega,λb t c5=>by rw[I b zo (Q b t),d.block b zo,m.block b t c5]⟩);have a5:=zh ((I p zo (Q p b3)).trans (ab Z d));have c6:=zh ((I K zo e4).trans (ab b1 d))
     have c7:=zh (show P.ownsRow w.heap.size 319 3 v' (j+1) (((l.drop k).take (j+1)).flatMap WV.cells) by
      rw[OH,OL,N,NK];simpa using a2)
     clear a2 s c3 a3 I Q;go_wp2_with fail;refine(vK (gq.of V W a4 a5 b9 X) b4).mono ?_;rintro e n ⟨rfl,-,c8,R⟩;have S:=zh (c8 _ _ a5);have T:=a4.trans R;have a6:=zh (fo c7 R (λb t e=>by subst e;omega));have c9:=R.keep c6 zo;clear B C D;obtain⟨B,C,D⟩:=aW c9;go_wp2_with fail;refine zb (iJ ((gq.of V W T S (show k+j+1<=l.length from b4) X).below ze)) λf8 d0=>?_
     obtain⟨r,a7⟩:=bl d0;obtain⟨h,U⟩:=zy (l[k+j+1]?);rw[<-U,qB];dsimp only[WV.val];obtain⟨f9,d1,g0⟩:=aW r;have g1:=ad (o:=0) r;have g2:=ad (o:=1) r;have g3:=ad (o:=2) r;have d2:=T.size;have g4:=aa r;have d3:=zh r;have a8:=zh a7;clear r a7 B C D;go_wp2_with fail;go_roundw
     case rel=>
      have A:=ao (u:= .int .i64 (pk h).col) (p:=⟨n.heap.size,2,none⟩) (ao (u:= .int .i64 (pk h).line) (p:=⟨n.heap.size,1,none⟩) (ao (u:= .string (pk h).text) (p:=⟨n.heap.size,0,none⟩) a8 zl) zl) zl;refine⟨j+1,n.heap.size,pk h,h.isSome,zo,rfl,rfl,zh ⟨by rw[U,OU],by rw[U,OU]⟩,(aS a6 A),zh (ab S A),zh (bW _ _ _ d3),zh ?_,(T.trans (Ch.fresh A)),⟨d2,b3⟩,zh (λe=>by have:=(World.ownsRow.lt a6 _ e).2;omega)⟩;rw[b2,c2,OH,OL,N];simp
     case measure=>
      have A:=ao (u:= .int .i64 (pk h).col) (p:=⟨n.heap.size,2,none⟩) (ao (u:= .int .i64 (pk h).line) (p:=⟨n.heap.size,1,none⟩) (ao (u:= .string (pk h).text) (p:=⟨n.heap.size,0,none⟩) a8 zl) zl) zl;rw[(bE (ab S A)).1,c0];simp[intOf];omega
    ·have g7:(x.line==y.line)=false:=by rw[Od];exact hq
     have L:=zh (show dW (l.drop k)=(l.drop k).take j by
      rw[b2,sD (.inr ⟨x,y,f1,by rw[OL];exact N,e9,λc=>hq c.symm⟩),OJ])
     clear hq;go_wp2_with fail;refine zJ wr 15 (zL [?_,?_,?_,?_,?_,?_,?_,?_,?_,?_,?_,?_,?_,?_,?_]) zq ?_;rotate_right
     iterate 15
      refine zV ?_
     refine zD λF f E=>?_
     have d:=zh f.1;clear f E;go_wp2;go_ret;have M:((l.drop k).take j).length=j:=by rw[NP,OB];omega
     have a0:=aS J d;refine⟨_,rfl,?_,cP a0,?_,m.trans (Ch.fresh d),b6,b7,by rw[L,M];exact ab Z d⟩
     ·rw[L];exact(aB.own (by rw[M];exact a0)).1
     ·rw[L,M];exact Y.below d
def kt(s:Qt):List Qt:=bU s ⟨#[10]⟩
def iK:List Qt->Nat->Except Nat (List WV)
 | [],_=> .ok []
 |s::r,i=>match kT s (i+1) with
  |none=> .error (i+1)
  |some l=>match iK r (i+1) with
   | .error e=> .error e
   | .ok m=> .ok (l++m)
def sF(s:Qt)(r:List Qt)(i:Nat):iK (s::r) i=match kT s (i+1) with|none=> .error (i+1)|some l=>match iK r (i+1) with| .error e=> .error e| .ok m=> .ok (l++m):=rfl
def Fc(s:Qt):Except (Nat×Nat) (List WV):=if 4000<s.size then .error (2,0) else match iK (kt s) 0 with
 | .error i=> .error (22,i)
 | .ok l=> .ok l
def Ck(s:Qt)(e:s.size<=4000):(kt s).length<=4001/\ ∀x∈kt s,x.size<=4000:=by
 obtain⟨_,d,a⟩:=lp s ⟨#[10]⟩ zd;exact⟨by unfold kt;omega,λx c=>by have:=a x c;omega⟩
def Cl{s:Qt}{n:Int}{l:List WV}(a:kT s n=some l):l.length<=s.size:=by
 unfold kT at a;cases h0:eg s n s.size with
 |none=>rw[h0] at a;cases a
 |some p=>
  rw[h0] at a;simp only[PY,OF] at a;have e:=(je (l:=p.1) (b:=p.2) h0).1
  have c: ∀l:List WV,(lw l).length<=l.length:=by
   intro l
   induction l with
   |nil=>exact Nt _
   |cons x l d=>unfold lw;split<;>simp;exact d
  have:=c p.1;rw[a] at this;omega
def Mt(w:Qm)(r:Except (Nat×Nat) (List WV))(e:Qq)(w':Qm):Prop:=
 Qs (Qr w.heap.size w w')/\match r with
 | .error x=>e= .returned (.tuple #[.pointer none,.int .i64 x.1,.int .i64 x.2])
 | .ok l=> ∃p,e= .returned (.tuple #[.pointer (some ⟨p,0,none⟩),.int .i64 0,.int .i64 0])/\gq w' p 0 l/\w.heap.size<=p
def Fd(s:Qt)(m:Int)(w:Qm)(e2:s.size<=1000000)(d0:Qs (w.cell? ⟨0,0,none⟩=some (.int .i64 m))):Qo zP 246 #[s] w (Mt w (Fc s)):=by
 obtain⟨a7,a8,a9,b0,b1⟩:=info_parts nx;by_cases N:4000<s.size
 ·have g:=zh (show Fc s= .error (2,0) from NH N)
  go_enter func246,ntmps246;go_wp2
  go_ret3
  refine⟨ND _ _,?_⟩;rw[g];exact rfl
 ·have g:=zh (show Fc s=match iK (kt s) 0 with| .error i=> .error (22,i)| .ok l=> .ok l from NB N)
  have d1:(s.size:Int)<=4000:=zo;obtain⟨b2,O⟩:=Ck s zo;have P:=zh O;clear O;go_enter func246,ntmps246;go_wp2_with fail;refine zb (eV s _ zo) λd2 Q=>?_
  have R:=ai ze Q;have S:=zh R;have T:=zh (ab (ag rfl) Q);clear R;go_wp2_with fail;refine(nk s ⟨#[10]⟩ m _ zo zd (ae d0 S)).mono ?_;rintro e f ⟨b3,c,rfl,d3,U,D⟩;have V:=ai S D;have W:=zh (ab T D);obtain⟨L,E⟩:=zx (bU s ⟨#[10]⟩);rw[show kt s=L from E.symm] at b2 P g;rw[<-E] at U⊢;clear E;go_wp2_with fail;go_loopw [19] (λi wr=> ∃(j:Nat) (v:Qn) (l:List WV),j<=L.length/\i= .int .i64 j/\Qs (iK L 0=match iK (L.drop j) j with| .error e=> .error e| .ok m=> .ok (l++m))/\Qs (wr.heap[w.heap.size]?=some (.cells #[(),v] 413))/\Qs (wr.ownsRow f.heap.size 319 3 v l.length (l.flatMap WV.cells))/\l.length<=j*4000/\Qs (Ch (·=w.heap.size) f wr)) (λi _=>L.length-(intOf i).toNat)
  case atStart=>exact⟨0,.slice none 0 0,[],Nx _,rfl,zh (by cases d:iK (L.drop 0) 0<;>(rw[Pn] at d;rw[d];try rfl)),W,zh (by simpa using World.ownsRow_nil _ _ _ _),zm,(Ch.refl _ _)⟩
  case round=>
   obtain⟨j,v,l,d4,rfl,F,X,H,d5,p⟩:=hrel;have I:=zh (show Qr w.heap.size w wr from V.trans (p.below (λk e=>by subst e;exact Nt _) V.size));have d6:=I.size;have d7:=p.size;have D:=aa W;have d8:=aa T;have b4:=zh (U.ch p zo);by_cases a:j<L.length
   ·obtain⟨b,o,e,d9,Y⟩: ∃b o,(some ⟨b3,0,none⟩:Option Addr)=some ⟨b,o,none⟩/\_/\_:=by
     obtain⟨_,_,e,_,_,d⟩:=b4.out;injection e with e
     rw[e];exact d (λd=>by rw[d] at a;exact absurd a (Oy _))
    injection e with e;injection e with b5 b6;subst b5 b6
    have c0:=Y j a;rw[Ok] at c0;have b7:(L.getD j ByteArray.empty).size<=4000:=P _ (by rw[Nr,Np a];exact NT a);have J:=zh (show L.drop j=L.getD j ByteArray.empty::L.drop (j+1) by rw[Oo a,Nr,Np a];rfl);obtain⟨x,Z⟩:=zx (L.getD j ByteArray.empty);rw[<-Z] at c0 b7 J;clear Y Z;go_wp2_with fail;refine(Fb x ((j:Int)+1) _ zo zo).mono ?_;rintro e e0 ⟨r,h⟩;have b8:=ai I r;have t:=zh (ab X r);have a0:=aS H r;have a1:=p.trans (Ch.fresh r);clear c0;obtain⟨q,A⟩:=zy (kT x (j+1));rw[<-A] at h;cases q with
    |none=>
     dsimp only at h;subst h;have n:=zh (show iK L 0= .error (j+1) by rw[F,J,sF,<-A]);go_wp2
     go_ret3
     refine⟨b8,?_⟩;rw[g,n];exact rfl
    |some q=>
     dsimp only at h;obtain⟨u,rfl,a2,b9⟩:=h;have c1:=zh a2;clear a2 b9;have e1:=Cl A.symm;obtain⟨c2,c3⟩:=bE t;have c4:=ad (o:=1) t;go_wp2_with (at_builtin;refine ci rfl _ _ 411 rfl f.heap.size 319 a7 _ 32 underlying411 a8 a9 b0 b1 rfl zd _ _ _ _ q rfl a0 rfl c1 (λ_=>rfl) ?qc1 ?qc2 zd ?qc3 ?_)
     case qc1=>intro x y a3;simp only[WV.cells,NL,NJ,Ou] at a3;rcases a3 with rfl|rfl|rfl<;>rfl
     case qc2=>omega
     case qc3=>exact a1.size
     intro v' a4 B K;obtain⟨a5,a6,rfl⟩:=az B;have M: ∀k,v.ownBlock=some k->f.heap.size<=k:=λk c5=>(World.ownsRow.lt a0 k c5).1
     have c6:Qs (Ch (·=w.heap.size) f a4):=Fa a1 K zl M;have C:=(K.block _ (aa t) (λe=>by have:=M _ e.symm;omega)).trans t;obtain⟨c2,c3⟩:=bE C;have c4:=ad (o:=1) C
     have n:=zh (show iK L 0=match iK (L.drop (j+1)) (j+1) with| .error e=> .error e| .ok m=> .ok ((l++q)++m) by
      rw[F,J,sF,<-A];dsimp only;cases iK (L.drop (j+1)) (j+1)<;>simp[NX])
     have c7:=zh (show a4.ownsRow f.heap.size 319 3 (.slice a5 (l.length+q.length) a6) (l++q).length ((l++q).flatMap WV.cells) by simpa using B);have c8:=zh C;have c9:=zh (show(Value.slice a5 (l.length+q.length) a6).ownBlock≠some (⟨w.heap.size,1,none⟩:Addr).block from λe=>by have:=(World.ownsRow.lt B _ e).1;dsimp only at this;omega);clear B K M C;go_wp2;go_roundw
     case rel=>exact⟨j+1,_,l++q,a,by go_num,n,zh (al c8 _),zh (ownsRow_setCell_other c7 c9 _),by simp;omega,(aP c6 (.inl rfl))⟩
     case measure=>simp[intOf];omega
   ·have n:=zh (show Fc s= .ok l by
     rw[g,F,Px zo];simp[iK])
    go_wp2
    go_ret3
    refine⟨I,?_⟩;rw[n];refine⟨_,rfl,⟨v,X,(aB.own H).1,?_,Nx _,zo⟩,Nt _⟩;exact λb d e=>by have:=(World.ownsRow.lt H b (cJ d)).1;omega
end Go.Proofs.YtdflhgceeloijaaGreatDoor
