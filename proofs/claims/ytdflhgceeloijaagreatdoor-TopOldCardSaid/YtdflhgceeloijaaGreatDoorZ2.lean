import Derived.Test.YtdflhgceeloijaaGreatDoorZ1
import Derived.Test.YtdflhgceeloijaaGreatDoorSf
import Derived.Laws.ResultCell
import Derived.Maps.OwnSet
import Derived.Maps.RangeRun
import Derived.Shelf.SlMaps.Clone
import Derived.RowKit
import Derived.WalkKit
import Derived.DeepKeys4
import Derived.Test.YtdflhgceeloijaaGreatDoorProg
import Derived.Lib.SplitLaws
set_option linter.all false
set_option maxRecDepth 100000
set_option maxHeartbeats 16000000
namespace Go.Proofs.YtdflhgceeloijaaGreatDoor
open Go Go.RowKit Tryz
open Tryz renaming prog→zP
open Go renaming World→Qm,Value→Qn,Calls→Qo,TypeId→Qp,Ending→Qq
open Go.RowKit renaming Below→Qr,Hid→Qs
def vl(x:Nat):Nat:=if x%2=1 then(x/2)^^^3945912366 else x/2
def sk:Nat->Nat->Nat
 |x,0=>x
 |x,n+1=>vl (sk x n)
def Ey(x:Nat)(b:UInt8):Nat:=sk (x^^^b.toNat) 8
def lj(x:Nat)(l:List UInt8):Nat:=l.foldl Ey x
def Ay{x:Nat}(a:x<4294967296):vl x<4294967296:=by
 unfold vl;split
 ·exact Pw (n:=32) zo zo
 ·omega
def vm{x:Nat}(a:x<4294967296): ∀n,sk x n<4294967296
 |0=>a
 |n+1=>Ay (vm a n)
def Ez{x:Nat}(a:x<4294967296)(b:UInt8):Ey x b<4294967296:=vm (Pw (n:=32) a (by have:=b.toNat_lt;omega)) 8
def Az: ∀(l:List UInt8) {x:Nat},x<4294967296->lj x l<4294967296
 | [],_,a=>a
 |b::l,x,a=>Az l (Ez a b)
def ox(x:Nat)(a b:List UInt8):lj x (a++b)=lj (lj x a) b:=by simp[lj]
def xO{l:List Qt}{k:Nat}(a:k<l.length):l.take (k+1)=l.take k++ [l.getD k ByteArray.empty]:=by
 rw[NE a];simp[a]
def kQ(l:List Qt):List UInt8:=l.flatMap λs=>s.data.toList
def xP{l:List Qt}{k:Nat}(a:k<l.length):kQ (l.take (k+1))=kQ (l.take k)++(l.getD k ByteArray.empty).data.toList:=by
 rw[xO a];simp[kQ]
def vo(w:Qm)(q:Nat)(x:Nat):Prop:=w.heap[q]?=some (.cells #[.int .u32 x] 492)
def po(a b:Nat)(c:a<4294967296)(d:b<4294967296):bits .xor .u32 (a:Int) (b:Int)=((a^^^b:Nat):Int):=u32_xor_nat a b c d
def HO(x:Nat)(a:x<4294967296):bits .xor .u32 (((x^^^4294967295:Nat)):Int) 4294967295=(x:Int):=by
 have:=po (x^^^4294967295) 4294967295 (Pw (n:=32) a zo) zo;rw[Nat.xor_assoc,Nat.xor_self,Nat.xor_zero] at this;exact this
def EA(x:Nat)(a:x<4294967296):bits .xor .u32 (x:Int) 4294967295=((x^^^4294967295:Nat):Int):=po x 4294967295 a zo
def AA(x:Nat)(a:x<4294967296):bits .and .u32 (x:Int) 1=((x%2:Nat):Int):=by
 have:=u32_and_nat x 1 a zo;rw[Nat.and_one_is_mod] at this;exact this
def HP(x:Nat)(c:x<4294967296)(a:x%2=1):bits .xor .u32 ((x:Int)/2) 3945912366=((vl x:Nat):Int):=by
 have:=po (x/2) 3945912366 zo zo;unfold vl;rw[NH a,<-this];rfl
def EB(x:Nat)(a: ¬x%2=1):(x:Int)/2=((vl x:Nat):Int):=by unfold vl;rw[NB a];simp
def xQ(x n:Nat):sk x (n+1)=vl (sk x n):=rfl
def BQ{x:Nat}{l:List UInt8}{k:Nat}(a:k<l.length):lj x (l.take (k+1))=Ey (lj x (l.take k)) (l.getD k 0):=by
 rw[NE a,ox];simp[lj,a]
def HQ(q x:Nat)(v:Qn)(l:List Qt)(w:Qm)(B:Qs (vo w q (x^^^4294967295)))(S:x<4294967296)(a7:bq w v l):
 Qo zP 416 #[q,v] w (λT w'=>T= .returned (.tuple #[])/\Qs (vo w' q (lj x (kQ l)^^^4294967295))/\w'=w.setCell ⟨q,0,none⟩ (.int .u32 (lj x (kQ l)^^^4294967295:Nat))):=by
 obtain⟨a,a8,rfl,C,a9,D⟩:=a7;have U:=zh D;have W:=zh C;have c0:w.cell? ⟨q,0,none⟩=some (.int .u32 (x^^^4294967295:Nat)):=by rw[NA w q _ _ _ _ B];rfl
 have b0:=ad (o:=0) B;clear D C;go_enter func416,ntmps416;have h:=HO x S;go_wp2;clear h
 go_loop [18,4] (λi y=> ∃(k c:Nat),k<=l.length/\i= .int .i64 k/\y= .int .u32 c/\c<4294967296/\Qs (c=lj x (kQ (l.take k)))) (λi _=>l.length-(intOf i).toNat)
 case atStart=>exact⟨0,x,Nx _,rfl,rfl,S,zh (by simp[kQ,lj])⟩
 case round=>
  obtain⟨k,c,b1,rfl,rfl,E,F⟩:=hrel;by_cases e:k<l.length
  ·obtain⟨b,o,rfl,b2,H⟩:=U (by intro X;simp[X] at e)
   have Y:=H k e;have Z:=W (l.getD k ByteArray.empty) (by simp[e]);obtain⟨s,a0⟩:=zy (l.getD k ByteArray.empty);have I:=zh (xP e);rw[<-a0] at Y Z I;clear H;go_wp2
   go_loop [24,4] (λi y=> ∃(j d:Nat),j<=s.size/\i= .int .i64 j/\y= .int .u32 d/\d<4294967296/\Qs (d=lj c (s.data.toList.take j))) (λi _=>s.size-(intOf i).toNat)
   case atStart=>exact⟨0,c,Nx _,rfl,rfl,E,zh (by simp[lj])⟩
   case round=>
    obtain⟨j,d,b3,rfl,rfl,m,J⟩:=hrel;by_cases K:j<s.size
    ·have p:=zh (BQ (x:=c) (l:=s.data.toList) (k:=j) (by simpa using K))
     have L:(s.data.toList.getD j 0)=s[j]:=by simp[List.getD,K];rfl
     rw[L] at p;have M:=po d s[j].toNat m (by have:=s[j].toNat_lt;omega);have b4:0<=(s[j].toNat:Int)/\(s[j].toNat:Int)<=255:=by have:=s[j].toNat_lt;omega
     have N:(d^^^s[j].toNat)<4294967296:=Pw (n:=32) m (by have:=s[j].toNat_lt;omega);obtain⟨r,O⟩:=zy (d^^^s[j].toNat);rw[<-O] at M N;have a1:=zh p;clear L p;go_wp2;clear M
     go_loop [33,4] (λi y=> ∃(n V:Nat),n<=8/\i= .int .i64 n/\y= .int .u32 V/\V<4294967296/\Qs (V=sk r n)) (λi _=>8-(intOf i).toNat)
     case atStart=>exact⟨0,r,zo,rfl,rfl,N,zh rfl⟩
     case round=>
      obtain⟨n,V,b5,rfl,rfl,f,t⟩:=hrel;have P:=zh (xQ r n);have Q:=zh (Ay f);by_cases b6:n<8
      ·by_cases g:V%2=1
       ·have u:=AA V f
        rw[g] at u;have h:=HP V f g;clear g;go_wp2
        go_round
        case rel=>exact⟨n+1,_,zo,by go_num,rfl,Q,zh (by rw[P,<-t])⟩
        case measure=>simp[intOf];omega
       ·have u:=AA V f
        have R:V%2=0:=zo;rw[R] at u;have a2:=zh (EB V g);clear g R;go_wp2
        go_round
        case rel=>exact⟨n+1,_,zo,by go_num,by rw[a2],Q,zh (by rw[P,<-t])⟩
        case measure=>simp[intOf];omega
      ·have a3:n=8:=zo
       subst a3;go_wp2
       go_round
       case rel=>exact⟨j+1,V,zo,by go_num,rfl,f,zh (by rw[a1,<-J,t,O];rfl)⟩
       case measure=>simp[intOf];omega
    ·have a4:j=s.size:=zo
     subst a4;go_wp2
     go_round
     case rel=>
      refine⟨k+1,d,zo,by go_num,rfl,m,zh ?_⟩;have:=J.out;rw[NC zm] at this;rw[this,I,ox,<-F]
     case measure=>simp[intOf];omega
  ·have a5:k=l.length:=zo
   subst a5;have A:=F.out;rw[OA] at A;have a6:=zh A;have h:=EA c E;clear A e;go_wp2
   go_end0
   rw[<-a6];refine⟨rfl,?_,rfl⟩;unfold vo;rw[al B];rfl
def jb(l:List UInt8):Nat:=lj 4294967295 l^^^4294967295
def mZ(l:List UInt8):jb l<4294967296:=Pw (n:=32) (Az l zo) zo
def BR(q x:Nat)(w:Qm)(hq:vo w q x):Qo zP 417 #[q] w (aK w (.int .u32 x)):=by
 have c0:w.cell? ⟨q,0,none⟩=some (.int .u32 x):=by rw[NA w q _ _ _ _ hq];rfl
 clear hq;go_enter func417,ntmps417;go_wp2;go_ret;exact⟨rfl,ND _ _⟩
def tS(v:Qn)(l:List Qt)(w:Qm)(d:bq w v l):Qo zP 367 #[v] w (aK w (.int .u32 (jb (kQ l)))):=by
 have f:=d.below (ak w (.cells #[.int .u32 0] 492));have g:=zh (show vo (w.alloc (.cells #[.int .u32 0] 492)) w.heap.size (4294967295^^^4294967295) from Nu _ _);clear d;go_enter func367,ntmps367;go_wp2_with fail;refine(HQ w.heap.size 4294967295 v l _ g zo f).mono ?_;rintro e a ⟨rfl,h,c⟩;have i:=zh (show Qr w.heap.size w a by rw[c];exact ao ze zl);clear c;go_wp2_with fail;refine zb (BR w.heap.size _ a h) λk j=>?_
 go_wp2;go_ret;exact⟨rfl,ai i j⟩
def kR(x:Nat):Qt:=aO (aq x 4)
def qh(x:Nat):(kR x).size=4:=by show(aq x 4).length=4;exact am _ _
def qi(x:Nat)(w:Qm)(d:x<4294967296):Qo zP 366 #[.int .u32 x] w (aK w (.string (kR x))):=by
 have l:(x:Int)<=4294967295:=zo;have a:=ef w;have f:=zh d;clear d;go_enter func366,ntmps366;go_wp2_with fail;refine(dC w.heap.size 4 _ [(x:Int)] [] _ (a.keep ze) (bH a zm rfl zu zm) (.inl rfl) (by have:=f.out;simp[rQ];omega) zm).mono ?_;rintro e m ⟨rfl,g,h⟩;have i:=zh g;have c:=(h.below (a.keep ze));have j:=aI (ak w _) ze zm|>.trans c;clear c;go_wp2_with fail;refine zb (fh _ _ _ i) λn k=>?_
 go_wp2;go_ret;exact⟨by simp[kR,aV],ai j k⟩
def tT(s:Qt):Qt:=s++kR (jb s.data.toList)
def sm(s:Qt):kQ [s]=s.data.toList:=by simp[kQ]
def BS(s:Qt)(w:Qm)(f:s.size<=1000000):Qo zP 305 #[s] w (aK w (.string (tT s))):=by
 have a:=zh (sm s);have g:=zh f;go_enter func305,ntmps305;go_wp2_with fail;refine zb (tS _ [s] _ (cG (l:= [s]) rfl (by rfl) zu zm)) λh c=>?_
 rw[a];have d:=ai ze c;go_wp2_with fail;refine zb (qi _ _ (mZ _)) λi e=>?_
 have j:s.size+(kR (jb s.data.toList)).size<=9223372036854775807:=by rw[qh];omega
 go_wp2;go_ret;exact⟨rfl,ai d e⟩
def vp{a b:Qt}(c:a.data.toList=b.data.toList):a=b:=by
 cases a;cases b;congr;exact Pt.1 c
def toList_inj{a b:Qt}(c:a.toList=b.toList):a=b:=by
 rw[ByteArray.toList_eq,ByteArray.toList_eq] at c;exact vp c
def sn(b t u:Qt)(n:Nat)(w:Qm)(c:b.size=n+4)(B:n<=1000000)(q:b.extract 0 n=t)(C:b.extract n (n+4)=u):
 Qo zP 307 #[b] w (aK w (if u=kR (jb t.data.toList) then .tuple #[t,()] else .tuple #[ByteArray.empty,(7:Int)])):=by
 have v:(b.size:Int)=(n:Int)+4:=zo;have x:(n:Int)<=(n:Int)+4:=zo;have y:=zh q;have k:=zh (show t.size<=1000000 by rw[<-q];simp;omega);have p:=zh (sm t);by_cases g:u=kR (jb t.data.toList)
 ·rw[NH g]
  have hq:(u.toList==(kR (jb t.data.toList)).toList)=true:=by rw[g];simp
  clear g;go_enter func307,ntmps307;go_wp2;refine zI (λw'=>Qr w.heap.size w w') 11 (zL [?_,?_,?_,?_,?_,?_]++(mV [t])::zL [?_,?_,?_,?_]) (λf h i c=>ai i c) (zr.drew) ?_;rotate_right
  iterate 6
   refine zW ?_
  refine aT zk rfl rfl ?_ λr=>?_
  ·intro f a e j d;(try dsimp only at a);go_simp;refine d.out _ _ _ zz ?_ ze;exact cG (l:= [t]) rfl (by rfl) (by have:=k.out;simp;omega) zm
  simp only[zS];refine aw zk rfl rfl ?_ ?_
  ·intro f a e j d;(try dsimp only at a);go_simp;refine zb (tS _ [t] _ (e.out 6 zk)) λh c=>?_;rw[p];exact d.out _ _ zz c
  refine aw zk rfl rfl ?_ ?_
  ·intro f a e j d;(try dsimp only at a);go_simp;refine zb (qi _ _ (mZ _)) λh c=>?_;exact d.out _ _ zz c
  iterate 2
   refine zW ?_
  refine zD λm a e=>?_
  have o:Qr w.heap.size w m:=a;go_wp2_with fail;refine zb (eV t _ (by have:=k.out;omega)) λA s=>?_
  go_wp2;go_ret2;exact⟨rfl,ai o s⟩
 ·rw[NB g]
  have hq:(u.toList==(kR (jb t.data.toList)).toList)=false:=by
   simp only[Od];exact λi=>g (toList_inj i)
  clear g;go_enter func307,ntmps307;go_wp2;refine zI (λw'=>Qr w.heap.size w w') 11 (zL [?_,?_,?_,?_,?_,?_]++(mV [t])::zL [?_,?_,?_,?_]) (λf h i c=>ai i c) (zr.drew) ?_;rotate_right
  iterate 6
   refine zW ?_
  refine aT zk rfl rfl ?_ λr=>?_
  ·intro f a e j d;(try dsimp only at a);go_simp;refine d.out _ _ _ zz ?_ ze;exact cG (l:= [t]) rfl (by rfl) (by have:=k.out;simp;omega) zm
  simp only[zS];refine aw zk rfl rfl ?_ ?_
  ·intro f a e j d;(try dsimp only at a);go_simp;refine zb (tS _ [t] _ (e.out 6 zk)) λh c=>?_;rw[p];exact d.out _ _ zz c
  refine aw zk rfl rfl ?_ ?_
  ·intro f a e j d;(try dsimp only at a);go_simp;refine zb (qi _ _ (mZ _)) λh c=>?_;exact d.out _ _ zz c
  iterate 2
   refine zW ?_
  refine zD λm a e=>?_
  have o:Qr w.heap.size w m:=a;go_wp2;go_ret2;exact⟨rfl,o⟩
def aJ{P:Program}{e:Func}{p u:Tmp}{a:Qp}(f:e.results=#[.cell p a,.tmp u])(tmps:Array Qn)(w:Qm)(g:Nat)(t:Qp)(c:Array Qn)(fr:Nat×Nat)(d:TypeDesc)(x:Qn)
 (h:tmps.getD p undef= .pointer (some ⟨g,0,none⟩)) (i:tmps.getD u undef=x) (j:w.heap[g]?=some (.cells c t fr))
 (k:P.underlying a=some d) (l:(match d with| .struct _| .array _ _=>true|_=>false)=true) (m:(P.info? a).map (·.size)=some c.size):
 (results e tmps).run P w= .ok (.tuple #[.agg c,x]) w:=by
 rw[results_cell_tmp f,h,i];simp[asAddr,Result.andThen,run_loadVar_row w g t a c fr d j k l m]
def gZ(n:Int):Prop:=64<=n/\n<=4096
def pa(n:Int):Qn:= .agg #[n,(2:Int),(18:Int),(18+(n/200+10):Int),(n/200+10:Int),(18+2*(n/200+10):Int),((n-(18+2*(n/200+10)))/2:Int)]
def JZ:Qn:= .agg #[(),(),(),(),(),(),()]
def HR(n:Int)(w:Qm)(c:aQ n)(a: ¬gZ n):Qo zP 59 #[n] w (aK w (.tuple #[JZ,(1:Int)])):=by
 unfold aQ at c;unfold gZ at a;by_cases d:n<64
 all_goals by_cases e:4096<n
 all_goals first
  |(exfalso;omega)
  |(clear a
    go_enter func59,ntmps59;go_wp2;refine NG (v:= .tuple #[JZ,(1:Int)]) (aJ results59 _ _ w.heap.size 75 _ (0,0) _ _ rfl rfl (Nu _ _) underlying75 rfl zk) rfl ?_;exact⟨rfl,ak _ _⟩)
def jJ(n:Int)(w:Qm)(c:gZ n):Qo zP 59 #[n] w (aK w (.tuple #[pa n,()])):=by
 obtain⟨d,e⟩:=c
 have a:pa n= .agg #[n,(2:Int),(18:Int),(18+(n/200+10):Int),(n/200+10:Int),(18+(n/200+10)+(n/200+10):Int),((n-(18+(n/200+10)+(n/200+10)))/2:Int)]:=by
  unfold pa;rw[(zo:18+2*(n/200+10)=18+(n/200+10)+(n/200+10))]
 rw[a];go_enter func59,ntmps59;go_wp2;refine NG (v:= .tuple #[_,()]) (aJ results59 _ _ w.heap.size 75 _ (0,0) _ _ rfl rfl (iB ze zm (Nu _ _)) underlying75 rfl zk) rfl ?_;exact⟨rfl,ai ze ze⟩
structure SV where
 gen:Int
 blocks:Int
 bytes:Int
def SV.zero:SV:=⟨0,0,0⟩
def SV.val(s:SV):Qn:= .agg #[.int .u64 s.gen,(s.blocks:Int),(s.bytes:Int)]
def SV.ok(s:SV):Prop:=(0<=s.gen/\s.gen<=18446744073709551615)/\aQ s.blocks/\aQ s.bytes
def SV.may(s:SV):Prop:=gZ s.blocks/\s.gen≠0/\0<=s.bytes/\s.bytes<=40000
instance(n:Int):Decidable (gZ n):=by unfold gZ;infer_instance
instance(s:SV):Decidable s.may:=by unfold SV.may;infer_instance
def dV{w:Qm}{b:Nat}{T:Qp}{a c d:Qn}(e:w.heap[b]?=some (.cells #[a,c,d] T)):w.cell? ⟨b,0,none⟩=some a/\w.cell? ⟨b,1,none⟩=some c/\w.cell? ⟨b,2,none⟩=some d:=by
 refine⟨?_,?_,?_⟩<;>(rw[NA w b _ _ _ _ e];rfl)
def qj:Qt:=⟨#[83,69,68,73,77,69,78,84]⟩
def vq(s:SV):List UInt8:= []++bc [s.gen]++bd [s.blocks,s.bytes]
def oy(s:SV):List UInt8:=vq s++List.replicate (244-(vq s).length) 0
def hA(s:SV):Qt:=tT (qj++aO (oy s))
def vr(s:SV):(vq s).length=24:=by unfold vq;simp[aU,ca]
def vt(s:SV):(oy s).length=244:=by unfold oy;simp[vr]
def vu(s:SV):(qj++aO (oy s)).size=252:=by rw[Oh,fO,vt];rfl
def so(s:SV):(hA s).size=256:=by unfold hA tT;rw[Oh,vu,qh]
def Ka(n:Int):Array Qn:=#[n,(2:Int),(18:Int),(18+(n/200+10):Int),(n/200+10:Int),(18+2*(n/200+10):Int),((n-(18+2*(n/200+10)))/2:Int)]
structure Mj(w0:Qm)(A:SV)(p:Nat)(l:List UInt8)(w:Qm):Prop where
 pk:bw w p 0 l
 b:w.heap[w0.heap.size]?=some (.cells #[.int .u64 A.gen,.int .i64 A.blocks,.int .i64 A.bytes] 349)
 bel:Qr w0.heap.size w0 w
 lt:w0.heap.size<p
def Mj.step{w0 w w' c:Qm}{A:SV}{p:Nat}{l f:List UInt8}(a:Mj w0 A p l w)(d:Qr w.heap.size w w')(g:bi p w' c)(h:bw c p 0 f):Mj w0 A p f c:=by
 have e:=g.below (a.pk.keep d);exact⟨h,iB e a.lt (ab a.b d),(aI a.bel d a.bel.size).trans (e.mono (Oc a.lt)),a.lt⟩
def AB(s:SV)(w:Qm)(x:s.ok)(I:s.may):Qo zP 338 #[s.val] w (aK w (.tuple #[.string (hA s),()])):=by
 have n:=zh x;obtain⟨⟨y,A⟩,B,J,K⟩:=I;have C:=zh (show gZ s.blocks from⟨y,A⟩);obtain⟨⟨L,M⟩,N,O⟩:=x;have P:(s.gen==0)=false:=by simp;exact B
 simp only[SV.val];go_enter func338,ntmps338;go_wp2_with fail;refine zb (jJ s.blocks _ C) λa p=>?_
 have h:a.heap[w.heap.size]?=_:=ab (Nu w (.cells #[.int .u64 s.gen,(s.blocks:Int),(s.bytes:Int)] 349)) p;have q:w.heap.size<a.heap.size:=aa h;have r: ∀o,(a.alloc o).heap.size=a.heap.size+1:=λo=>zm
 have t:Qr w.heap.size w a:=ai (aL zr zl) p
 have k:=zh (show Mj w s (a.heap.size+1) [] ((a.alloc (.cells (Ka s.blocks) 75)).alloc (.cells #[(),z0] 215)) from
  ⟨r (.cells (Ka s.blocks) 75)▸ef (a.alloc (.cells (Ka s.blocks) 75)),(Oz _ _ _ (by rw[r];omega)).trans ((Oz a _ _ q).trans h),aI t (ai ze ze) (Oc q),zo⟩)
 obtain⟨c0,c,d⟩:=dV h;clear h t;simp only[pa];go_wp2_with fail;refine(fN _ _ [s.gen] [] _ (k.pk.keep ze) (dv k.pk zm rfl (by have:=n.out;unfold SV.ok at this;simp;omega)) zm).mono ?_;rintro e Q ⟨rfl,f,g⟩;have i:=k.step ze g f;clear c0 c d;obtain⟨c0,c,d⟩:=dV i.b;go_wp2_with fail;refine(fi _ _ [s.blocks,s.bytes] _ _ (i.pk.keep ze) (bH i.pk zm rfl (by have:=n.out;unfold SV.ok aQ at this;simp;omega) zm) (by simp[aU])).mono ?_;rintro e R ⟨rfl,f,g⟩;have l:=i.step ze g f;clear c0 c d;obtain⟨c0,c,d⟩:=dV l.b;go_wp2_with fail;refine(iD _ 244 _ _ l.pk zd (by have:=vr s;unfold vq at this;rw[this];decide)).mono ?_;rintro e S ⟨rfl,f,g⟩;have u:=l.step zr g f;clear c0 c d;go_wp2_with fail;refine zb (fh _ (oy s) _ u.pk) λT D=>?_
 have E:=ai u.bel D;have j:(aO (oy s)).size=244:=by rw[fO,vt]
 have v:=zh (show hA s=tT (qj++aO (oy s)) from rfl);obtain⟨b,m⟩:=zx (aO (oy s));rw[<-m] at v j⊢;have U:(⟨#[83,69,68,73,77,69,78,84]⟩:Qt).size+b.size<=9223372036854775807:=by rw[j];decide
 have V:8+b.size<=9223372036854775807:=by rw[j];decide
 have F:=zh (show(qj++b).size<=1000000 by rw[m,vu];decide);clear m j;go_wp2_with fail;refine zb (BS (qj++b) _ F) λW H=>?_
 rw[<-v];go_wp2;go_ret2;exact⟨rfl,ai E H⟩
def EC(s:SV)(w:Qm)(r:s.ok)(k: ¬s.may):Qo zP 338 #[s.val] w (aK w (.tuple #[ByteArray.empty,(1:Int)])):=by
 obtain⟨⟨t,u⟩,n,o⟩:=r;by_cases c:gZ s.blocks
 ·have g:=zh c
  have e:=zh (show s.gen=0\/(s.gen≠0/\(s.bytes<0\/40000<s.bytes)) by
   by_cases h:s.gen=0
   ·exact .inl h
   ·refine .inr ⟨h,?_⟩
    by_cases p:s.bytes<0
    ·exact .inl p
    ·refine .inr (Int.lt_of_not_ge λl=>k ⟨c,h,zo,zo⟩))
  unfold aQ at o;clear k c;simp only[SV.val];go_enter func338,ntmps338;go_wp2_with fail;refine zb (jJ s.blocks _ g) λi f=>?_
  have j:i.heap[w.heap.size]?=_:=ab (Nu w (.cells #[.int .u64 s.gen,(s.blocks:Int),(s.bytes:Int)] 349)) f;have v:w.heap.size<i.heap.size:=aa j;have d:=ai (aL zr zl) f;obtain⟨c0,x,y⟩:=dV j;clear j;simp only[pa];rcases e.out with a|⟨a,l|l⟩
  ·have m:(s.gen==0)=true:=by simp[a]
   clear a e;go_wp2;go_ret2;exact⟨rfl,ai d ze⟩
  ·have m:(s.gen==0)=false:=by simp[a]
   clear a e;go_wp2;go_ret2;exact⟨rfl,ai d ze⟩
  ·have m:(s.gen==0)=false:=by simp[a]
   have A: ¬s.bytes<0:=zo;clear a e;go_wp2;go_ret2;exact⟨rfl,ai d ze⟩
 ·have g:=zh c
  have q:=zh n;clear k c;simp only[SV.val];go_enter func338,ntmps338;go_wp2_with fail;refine zb (HR s.blocks _ q g) λi f=>?_
  have d:=ai (aL zr zl) f;simp only[JZ];go_wp2;go_ret2;exact⟨rfl,ai d ze⟩
def Jw(l:List UInt8)(k:Nat):Int:=cX ((l.drop k).take 8)
def xR(l:List UInt8)(k:Nat):0<=Jw l k/\Jw l k<=18446744073709551615:=by
 have a:=gW ((l.drop k).take 8);have c:=JY ((l.drop k).take 8).length (List.length_take_le _ _);unfold Jw;omega
def vv(x:Int)(a:0<=x)(c:x<=18446744073709551615): -9223372036854775808<=fI x/\fI x<=9223372036854775807:=by unfold fI;split<;>omega
def io(l:List UInt8):SV:=⟨Jw l 0,fI (Jw l 8),fI (Jw l 16)⟩
def AC(l:List UInt8):(io l).ok:=by
 unfold io SV.ok aQ;have d:=xR l 0;have a:=xR l 8;have c:=xR l 16;exact⟨d,vv _ a.1 a.2,vv _ c.1 c.2⟩
structure GS(w0:Qm)(u:Nat)(l:List UInt8)(s:Qt)(k:Nat)(w:Qm):Prop where
 un:fj w u 0 s
 li:s.data.toList=l.drop k
 sz:s.size+k=l.length
 b:w.heap[w0.heap.size]?=some (.cells #[.int .u64 SV.zero.gen,.int .i64 SV.zero.blocks,.int .i64 SV.zero.bytes] 349)
 bel:Qr w0.heap.size w0 w
 lt:w0.heap.size<u
def GS.step{w0 w w':Qm}{u k:Nat}{l:List UInt8}{s:Qt}(a:GS w0 u l s k w)(f:cR u w w')(g:fj w' u 0 (s.extract 8 s.size))(h:8<=s.size:=by omega):GS w0 u l (s.extract 8 s.size) (k+8) w':=by
 have d:=aa (show w.heap[u]?=_ from a.un);have c:=f.below (Oc d)
 have e:(s.extract 8 s.size).data.toList=l.drop (k+8):=by
  rw[bK,<-List.drop_drop,<-a.li];rw[NC (by simp)]
 refine⟨g,e,?_,iB c a.lt a.b,a.bel.trans (c.mono (Oc a.lt)),a.lt⟩;have:=a.sz;simp;omega
def G(w0:Qm)(u:Nat)(l:List UInt8)(k:Nat)(w:Qm):Prop:= ∃s,GS w0 u l s k w
def ED{w0 w:Qm}{u k:Nat}{l:List UInt8}(a:G w0 u l k w)(i:k+8<=l.length)(j:l.length<=1000000):
 Qo zP 317 #[u] w (λc w'=>c= .returned (.int .i64 (fI (Jw l k)))/\Qs (G w0 u l (k+8) w')):=by
 obtain⟨s,a⟩:=a;have g:=a.sz;refine(qa u s w a.un zo zo).mono ?_;rintro e h ⟨rfl,d,f⟩;exact⟨by rw[a.li];rfl,_,a.step f d zo⟩
def HT{w0 w:Qm}{u k:Nat}{l:List UInt8}(a:G w0 u l k w)(i:k+8<=l.length)(j:l.length<=1000000):
 Qo zP 384 #[u] w (λc w'=>c= .returned (.int .u64 (Jw l k))/\Qs (G w0 u l (k+8) w')):=by
 obtain⟨s,a⟩:=a;have g:=a.sz;refine(iE u s w a.un zo zo).mono ?_;rintro e h ⟨rfl,d,f⟩;exact⟨by rw[a.li];rfl,_,a.step f d zo⟩
def G.b{w0 w:Qm}{u k:Nat}{l:List UInt8}(a:G w0 u l k w):w.heap[w0.heap.size]?=some (.cells #[.int .u64 SV.zero.gen,(SV.zero.blocks:Int),(SV.zero.bytes:Int)] 349):=by obtain⟨s,a⟩:=a;exact a.b
def G.bel{w0 w:Qm}{u k:Nat}{l:List UInt8}(a:G w0 u l k w):Qr w0.heap.size w0 w:=by obtain⟨s,a⟩:=a;exact a.bel
def jc(b:Qt):Qt:=(b.extract 0 252).extract 8 (b.extract 0 252).size
def tU(b:Qt):SV:=io (jc b).data.toList
def qk(b:Qt):Bool:=decide (b.extract 252 256=kR (jb (b.extract 0 252).data.toList))
def lX(b:Qt):SV×Int:=
 if b.size≠256 then(SV.zero,5) else if qk b=false then(SV.zero,7) else if (tU b).may/\hA (tU b)=b then(tU b,0) else(SV.zero,6)
def pb(b:Qt):Qn:= .tuple #[(lX b).1.val,.int .i64 (lX b).2]
def tV{w:Qm}{b:Nat}{i e d a c f:Qn}{T:Qp}(j:w.heap[b]?=some (.cells #[i,e,d] T)):(((w.setCell ⟨b,0,none⟩ a).setCell ⟨b,1,none⟩ c).setCell ⟨b,2,none⟩ f).heap[b]?=some (.cells #[a,c,f] T):=by
 have g:(w.setCell ⟨b,0,none⟩ a).heap[b]?=some (.cells #[a,e,d] T):=al j _;have h:((w.setCell ⟨b,0,none⟩ a).setCell ⟨b,1,none⟩ c).heap[b]?=some (.cells #[a,c,d] T):=al g _;exact al h _
def fk{w w':Qm}{b:Nat}{c d e:Qn}(f:Qr w.heap.size w w')(a:w.heap.size<=b):Qr w.heap.size w (((w'.setCell ⟨b,0,none⟩ c).setCell ⟨b,1,none⟩ d).setCell ⟨b,2,none⟩ e):=ao (ao (ao f a) a) a
def EE(b:Qt)(w:Qm)(c:b.size≠256)(e:b.size<=9223372036854775807):Qo zP 375 #[b] w (aK w (pb b)):=by
 have a:=zh (show pb b= .tuple #[SV.zero.val,(5:Int)] by unfold pb lX;rw[NH c]);rw[a];have d:((b.size:Int) !=256)=true:=by simp;omega
 clear c a;simp only[SV.val,SV.zero];go_enter func375,ntmps375;go_wp2;refine NG (v:= .tuple #[_,(5:Int)]) (aJ results375 _ _ w.heap.size 349 _ (0,0) _ _ rfl rfl (Nu _ _) underlying349 rfl zk) rfl ?_;exact⟨rfl,ak _ _⟩
def HU(b:Qt)(w:Qm)(c:b.size=256)(d:qk b=false):Qo zP 375 #[b] w (aK w (pb b)):=by
 have h:=zh (show pb b= .tuple #[SV.zero.val,(7:Int)] by unfold pb lX;rw[NB (by simp[c]),NH d]);rw[h];have l:((b.size:Int) !=256)=false:=by simp[c]
 have f:=λw=>sn b _ _ 252 w (by rw[c]) zd rfl rfl
 unfold qk at d;rw[show(252+4)=256 from rfl,NB (of_decide_eq_false d)] at f;have i:=zh f;clear c d h f;simp only[SV.val,SV.zero];go_enter func375,ntmps375;go_wp2_with fail;refine(i _).mono ?_;rintro e j ⟨rfl,g⟩;have a:Qs (j.heap[w.heap.size]?=some (.cells #[.int .u64 SV.zero.gen,(SV.zero.blocks:Int),(SV.zero.bytes:Int)] 349)):=ab (Nu w _) g;have k:=ai (ak w _) g;obtain⟨c0,m,n⟩:=dV a;have p:=ad (o:=0) a;have q:=ad (o:=1) a;have r:=ad (o:=2) a;clear g;go_wp2;refine NG (v:= .tuple #[_,(7:Int)]) (aJ results375 _ _ w.heap.size 349 _ (0,0) _ _ rfl rfl (tV a) underlying349 rfl zk) rfl ?_;exact⟨rfl,fk k zl⟩
def EG(b:Qt)(c:b.size=256)(d:qk b=true):((tU b).may/\hA (tU b)=b->pb b= .tuple #[(tU b).val,()])/\(¬((tU b).may/\hA (tU b)=b)->pb b= .tuple #[SV.zero.val,(6:Int)]):=by
 unfold pb lX;rw[NB (by simp[c]),NB (by rw[d];decide)]
 constructor
 ·intro a;rw[NH a]
 ·intro a;rw[NB a]
def EH(b:Qt)(w:Qm)(s:b.size=256)(t:qk b=true):Qo zP 375 #[b] w (aK w (pb b)):=by
 have y:=zh (EG b s t);have a7:((b.size:Int) !=256)=false:=by simp[s]
 have n:=λw=>sn b _ _ 252 w (by rw[s]) zd rfl rfl
 have I:(b.extract 0 252).size=252:=by simp;omega
 unfold qk at t;rw[show(252+4)=256 from rfl,NH (Ns t)] at n;have i:Qs (jc b=(b.extract 0 252).extract 8 (b.extract 0 252).size):=rfl;obtain⟨x,J⟩:=zx (b.extract 0 252);rw[<-J] at n I i;have S:=zh n;have a8:8<=x.size:=zo
 have c:=zh (show(jc b).data.toList.length=244 by
  rw[i];simp;omega)
 have T:=zh (show(jc b).size=244 by rw[i];simp;omega);have h:=zh (show tU b=io (jc b).data.toList from rfl);clear s t n J I;go_enter func375,ntmps375;go_wp2_with fail;refine(S _).mono ?_;rintro e U ⟨rfl,A⟩;have K:=zh (show U.heap[w.heap.size]?=some (.cells #[.int .u64 SV.zero.gen,(SV.zero.blocks:Int),(SV.zero.bytes:Int)] 349) from ab (Nu w _) A);have V:=ai (ak w _) A;clear A;go_wp2_with fail;rw[<-i];refine(gV (jc b) _ (by rw[T];decide)).mono ?_;rintro e W ⟨u,rfl,X,Y,L⟩;have M:=zh (show G w u (jc b).data.toList 0 W from⟨jc b,Y,zm,zm,ab K L,ai V L,by have:=aa K;omega⟩);clear X;obtain⟨l,N⟩:=zx ((jc b).data.toList);rw[<-N] at M c h;clear N i;go_wp2_with fail;refine(HT M (by rw[c];decide) (by rw[c];decide)).mono ?_;rintro e a9 ⟨rfl,Z⟩
 skip
 go_wp2_with fail;refine(ED Z (by rw[c];decide) (by rw[c];decide)).mono ?_;rintro e b0 ⟨rfl,a0⟩
 skip
 go_wp2_with fail;refine(ED a0 (by rw[c];decide) (by rw[c];decide)).mono ?_;rintro e B ⟨rfl,C⟩
 skip
 go_wp2_with fail;have O:=aa C.b;have P:=zh ((Oz B (.cells #[.int .u64 (io l).gen,.int .i64 (io l).blocks,.int .i64 (io l).bytes] 349) _ O).trans C.b);have Q:=zh (Nu B (.cells #[.int .u64 (io l).gen,.int .i64 (io l).blocks,.int .i64 (io l).bytes] 349));have R:=zh (show Qr w.heap.size w _ from ai C.bel (ak B (.cells #[.int .u64 (io l).gen,.int .i64 (io l).blocks,.int .i64 (io l).bytes] 349)));clear O;by_cases p:(io l).may
 ·have j:=zh p
  clear p;refine zb (AB (io l) _ (AC l) j) λD d=>?_
  have a:=ab (w':=D) P d;have k:=ab Q d;have q:=zh a;have r:=ai R d;obtain⟨c0,a1,a2⟩:=dV a;obtain⟨E,F,H⟩:=dV k;simp only[io] at E F H;have a3:=ad (o:=0) a;have a4:=ad (o:=1) a;have a5:=ad (o:=2) a;clear a k;by_cases f:hA (io l)=b
  ·have m:=zh (y.1 ⟨h▸j.out,h▸f⟩)
   rw[f];have a6:(b.toList !=b.toList)=false:=zm;clear f;go_wp2;refine NG (v:= .tuple #[_,()]) (aJ results375 _ _ w.heap.size 349 _ (0,0) _ _ rfl rfl (tV q) underlying349 rfl zk) rfl ?_;exact⟨by rw[m,h];rfl,fk r zl⟩
  ·have m:=zh (y.2 (λg=>f (h▸g.2)))
   have a6:((hA (io l)).toList !=b.toList)=true:=by simp only[bne_iff_ne,ne_eq];exact λg=>f (toList_inj g)
   have b1:((hA (io l)).toList==b.toList)=false:=by simp only[Od];exact λg=>f (toList_inj g)
   clear f;go_wp2;refine NG (v:= .tuple #[_,(6:Int)]) (aJ results375 _ _ w.heap.size 349 _ (0,0) _ _ rfl rfl (tV q) underlying349 rfl zk) rfl ?_;exact⟨by rw[m];rfl,fk r zl⟩
 ·have j:=zh p
  clear p;have m:=zh (y.2 (λg=>j (h▸g.1)));refine zb (EC (io l) _ (AC l) j) λD d=>?_
  have a:=ab (w':=D) P d;have k:=ab Q d;have q:=zh a;have r:=ai R d;obtain⟨c0,a1,a2⟩:=dV a;obtain⟨E,F,H⟩:=dV k;simp only[io] at E F H;have a3:=ad (o:=0) a;have a4:=ad (o:=1) a;have a5:=ad (o:=2) a;clear a k;go_wp2;refine NG (v:= .tuple #[_,(6:Int)]) (aJ results375 _ _ w.heap.size 349 _ (0,0) _ _ rfl rfl (tV q) underlying349 rfl zk) rfl ?_;exact⟨by rw[m];rfl,fk r zl⟩
def HV(b:Qt)(w:Qm)(c:b.size<=9223372036854775807):Qo zP 375 #[b] w (aK w (pb b)):=by
 by_cases a:b.size=256
 ·cases ho:qk b with
  |false=>exact HU b w a ho
  |true=>exact EH b w a ho
 ·exact EE b w a c
def DV.sw(d:DV)(s:SV):DV×Int:=
 if s.may then
  if d.flush.2=0 then
   if (d.flush.1.write (s.gen%2) (hA s)).2=0 then(d.flush.1.write (s.gen%2) (hA s)).1.flush
   else d.flush.1.write (s.gen%2) (hA s)
  else d.flush
 else(d,1)
section
variable{w:Qm}{B p c:Nat}{d:DV}
def BT(s:SV)(e:Qs (bg w B p c d))(h:Qs s.ok)(f:Qs (¬s.may)):Qo zP 260 #[p,s.val] w (qd w B p (c+1) (d.sw s).1 (.int .i64 (d.sw s).2)):=by
 rw[show d.sw s=(d,1) from NB f];simp only[SV.val];go_enter func260,ntmps260;go_wp2_with fail;refine zb (EC s _ h f) λi g=>?_
 have a:=ai (ak w _) g;go_wp2;go_ret;exact⟨rfl,(e.step a).mono zo,e.dstep a⟩
def xS(s:SV)(u:Qs (bg w B p c d))(v:Qs (c+1<=1000000))(x:Qs (0<=d.writes/\d.writes<=999999999990))(K:Qs s.ok)(L:Qs s.may):Qo zP 260 #[p,s.val] w (qd w B p (c+1) (d.sw s).1 (.int .i64 (d.sw s).2)):=by
 have a:Qs (d.sw s=if d.flush.2=0 then
  if (d.flush.1.write (s.gen%2) (hA s)).2=0 then(d.flush.1.write (s.gen%2) (hA s)).1.flush
  else d.flush.1.write (s.gen%2) (hA s)
  else d.flush):=NH L
 have h:=tR d;have f:=lW d.flush.1 (s.gen%2) (hA s);have y:=zh (so s);obtain⟨U,V⟩:=K.1;obtain⟨q,i,r⟩: ∃q i,d.flush=(q,i):=⟨_,_,rfl⟩;rw[r] at a h f;have M:=zh r;dsimp only at a h f;obtain⟨A,j,t⟩: ∃A j,q.write (s.gen%2) (hA s)=(A,j):=⟨_,_,rfl⟩;rw[t] at a f;have C:=zh t;dsimp only at a f;obtain⟨b,D⟩:=zy (hA s);rw[<-D] at y C;have E:=zh h;have N:=zh f;clear r t h f;simp only[SV.val];go_enter func260,ntmps260;go_wp2_with fail;refine zb (AB s _ K L) λW k=>?_
 rw[<-D];have F:=zh (ab (Nu w (.cells #[.int .u64 s.gen,(s.blocks:Int),(s.bytes:Int)] 349)) k);have O:=u.step (ai (ak w _) k);have P:=u.dstep (ai (ak w _) k);have Q:=zh (ko u (ai (ak w _) k) zl);go_wp2_with fail;refine(iG O (by have:=v.out;omega) (by have:=x.out;omega)).mono ?_;rintro e X ⟨rfl,l,g⟩;rw[M] at l⊢;dsimp only at l⊢;have H:=P.trans g;have I:=(g.block w.heap.size (aa F) Q).trans F;obtain⟨c0,R,S⟩:=dV I;clear I;by_cases m:i=0
 ·subst m
  rw[NH rfl] at a;go_wp2_with fail;refine(gJ (s.gen%2) b l (by have:=v.out;omega) (by unfold aQ;omega) (by have:=x.out;have:=E.out;omega) (by rw[y];decide)).mono ?_;rintro e Y ⟨rfl,n,g⟩;rw[C] at n⊢;dsimp only at n⊢;have J:=H.trans g;clear c0 R S;by_cases o:j=0
  ·subst o
   rw[NH rfl] at a;go_wp2_with fail;refine(iG n (by have:=v.out;omega) (by have:=x.out;have:=E.out;have:=N.out;omega)).mono ?_;rintro e Z ⟨rfl,T,g⟩;go_wp2;go_ret;rw[a];exact⟨rfl,T,J.trans g⟩
  ·rw[NB o] at a
   have a0:(j !=0)=true:=by simpa using o
   clear o;go_wp2;go_ret;rw[a];exact⟨rfl,n,J⟩
 ·rw[NB m] at a
  have a1:(i !=0)=true:=by simpa using m
  clear m;go_wp2;go_ret;rw[a];exact⟨rfl,l.mono zo,H⟩
def xT(s:SV)(e:bg w B p c d)(g:c+1<=1000000)(h:0<=d.writes/\d.writes<=999999999990)(f:s.ok):Qo zP 260 #[p,s.val] w (qd w B p (c+1) (d.sw s).1 (.int .i64 (d.sw s).2)):=by
 by_cases a:s.may
 ·exact xS s e g h f a
 ·exact BT s e f a
end
def DV.best(d:DV):Nat->SV
 |0=>SV.zero
 |k+1=>if (lX (d.read k).1).2=0/\(d.best k).gen<(lX (d.read k).1).1.gen then(lX (d.read k).1).1 else d.best k
def DV.sr(d:DV):SV×Int:=
 if d.on=false then(SV.zero,14) else if (d.best 2).gen=0\/(d.best 2).blocks≠d.blocks then(SV.zero,28) else(d.best 2,0)
def DV.srV(d:DV):Qn:= .tuple #[d.sr.1.val,(d.sr.2:Int)]
def HX{d:DV}{k:Int}(a:d.on=true)(c:0<=k)(e:k<d.blocks):(d.read k).2=0:=by
 unfold DV.read Es;rw[NB (by rw[a];decide),NB zo];split<;>rfl
def EI{d:DV}{k:Int}(a:d.on=false):d.read k=(ByteArray.empty,14):=NH a
section
variable{w:Qm}{B p c:Nat}{d:DV}
def BU(e:bg w B p c d)(W:2<=d.blocks)(a: ∀k:Nat,(d.read k).1.size<=1000000):Qo zP 310 #[p] w (aK w d.srV):=by
 have P:=zh e;have b4:=zh a;have b5:=zh W;clear e a W;go_enter func310,ntmps310;go_wp2;go_loopw [10] (λx wr=> ∃k:Nat,k<=2/\x= .int .i64 k/\(Qs (wr.heap[w.heap.size]?=some (.cells #[.int .u64 SV.zero.gen,(SV.zero.blocks:Int),(SV.zero.bytes:Int)] 349))/\Qs (wr.heap[w.heap.size+1]?=some (.cells #[.int .u64 (d.best k).gen,.int .i64 (d.best k).blocks,.int .i64 (d.best k).bytes] 349))/\Qs (Qr w.heap.size w wr)/\Qs (k=2->d.on=true))) (λx _=>2-(intOf x).toNat)
 case atStart=>exact⟨0,by omega,rfl,zh ((Oz _ _ _ (by simp)).trans (Nu w _)),zh (ag (by simp)),(ai ze ze),zh (λe=>absurd e (by decide))⟩
 case round=>
  obtain⟨k,W,rfl,s,t,l,b6⟩:=hrel;by_cases c3:k<2
  ·by_cases Q:d.on=true
   ·have h:=zh Q
    clear Q;go_wp2_with fail;refine zb (lU k (P.out.step l.out) (by unfold aQ;omega)) λm i=>?_
    rw[HX h.out (by omega) (by have:=b5.out;omega)];have X:=ai l.out i;have Y:=zh (ab s.out i);have b7:=zh (ab t.out i);have a7:=zh (b4.out k);have y:=zh (show d.best (k+1)=if (lX (d.read k).1).2=0/\(d.best k).gen<(lX (d.read k).1).1.gen then(lX (d.read k).1).1 else d.best k from rfl);have a8:=zh (show pb (d.read k).1= .tuple #[(lX (d.read k).1).1.val,.int .i64 (lX (d.read k).1).2] from rfl);obtain⟨b,f⟩: ∃b,b=(d.read k).1:=⟨_,rfl⟩;rw[<-f] at a7 y a8⊢;clear i f;go_wp2_with fail;refine zb (HV b _ (by have:=a7.out;omega)) λA S=>?_
    rw[a8.out];obtain⟨R,E,a9⟩: ∃R E,lX b=(R,E):=⟨_,_,rfl⟩;rw[a9] at y⊢;dsimp only[SV.val] at y⊢;have Z:=ai X S;have a0:=zh (ab Y.out S);have n:=ab b7.out S;have a1:=zh n;obtain⟨c0,C,D⟩:=dV n;have F:=ad (o:=0) n;have H:=ad (o:=1) n;have I:=ad (o:=2) n;have c4:=aa n;clear S n a9;by_cases hq:E=0/\(d.best k).gen<R.gen
    ·have U:=zh (show d.best (k+1)=R by rw[y.out,NH hq])
     obtain⟨rfl,hq⟩:=hq;go_wp2;go_roundw
     case rel=>exact⟨k+1,by omega,by go_num,zh (ab (by rw[af _ (by simp),af _ (by simp),af _ (by simp)];exact a0.out) ze),zh (by rw[U.out];exact ab (tV a1.out) ze),(ai (fk Z (Pd _)) ze),zh (λ_=>h.out)⟩
     case measure=>simp[intOf];omega
    ·have U:=zh (show d.best (k+1)=d.best k by rw[y.out,NB hq])
     by_cases a2:E=0
     ·subst a2
      have c5: ¬(d.best k).gen<R.gen:=λe=>hq ⟨rfl,e⟩
      clear hq;go_wp2;go_roundw
      case rel=>exact⟨k+1,by omega,by go_num,zh (ab a0.out ze),zh (by rw[U.out];exact ab a1.out ze),(ai Z ze),zh (λ_=>h.out)⟩
      case measure=>simp[intOf];omega
     ·have c6:(E==0)=false:=by simpa using a2
      clear hq a2;go_wp2;go_roundw
      case rel=>exact⟨k+1,by omega,by go_num,zh (ab a0.out ze),zh (by rw[U.out];exact ab a1.out ze),(ai Z ze),zh (λ_=>h.out)⟩
      case measure=>simp[intOf];omega
   ·have a3:d.on=false:=by simpa using Q
    have h:=zh a3;have b8:=zh (show d.srV= .tuple #[SV.zero.val,(14:Int)] by unfold DV.srV DV.sr;rw[NH a3]);clear Q a3;go_wp2_with fail;refine zb (lU k (P.out.step l.out) (by unfold aQ;omega)) λm i=>?_
    rw[EI h.out];have a:=ab s.out i;have X:=ai l.out i;have Y:=zh a;obtain⟨c0,C,D⟩:=dV a;have F:=ad (o:=0) a;have H:=ad (o:=1) a;have I:=ad (o:=2) a;clear i a;go_wp2;refine NG (v:= .tuple #[_,(14:Int)]) (aJ results310 _ _ w.heap.size 349 _ (0,0) _ _ rfl rfl (tV Y.out) underlying349 rfl (by kernel_rfl)) rfl ?_;exact⟨by rw[b8.out];rfl,fk X zl⟩
  ·have a4:k=2:=by omega
   have h:=zh (b6.out a4);have b0:d.best k=d.best 2:=by rw[a4]
   rw[b0] at t;have u:=zh (λ(a5:(d.best 2).gen=0\/(d.best 2).blocks≠d.blocks)=>show d.srV= .tuple #[SV.zero.val,(28:Int)] by unfold DV.srV DV.sr;rw[NB (by rw[h.out];decide),NH a5]);have J:=zh (λ(a5: ¬((d.best 2).gen=0\/(d.best 2).blocks≠d.blocks))=>show d.srV= .tuple #[(d.best 2).val,()] by unfold DV.srV DV.sr;rw[NB (by rw[h.out];decide),NB a5]);obtain⟨T,b1⟩: ∃T,T=d.best 2:=⟨_,rfl⟩;rw[<-b1] at t u J;clear a4 b0 b1;have a:=s.out;have K:=t.out;obtain⟨c0,C,D⟩:=dV a;obtain⟨V,a6,b9⟩:=dV K;have F:=ad (o:=0) a;have H:=ad (o:=1) a;have I:=ad (o:=2) a;clear a K;by_cases q:T.gen=0
   ·have c1:(T.gen==0)=true:=by simp[q]
    have L:=zh (u.out (.inl q));clear u J q;go_wp2_with fail;refine zI (λw'=>(w'.heap[w.heap.size]?=some (.cells #[.int .u64 SV.zero.gen,(SV.zero.blocks:Int),(SV.zero.bytes:Int)] 349)/\Qr w.heap.size w w')/\w'.cell? ⟨w.heap.size+1,0,none⟩=some (.int .u64 T.gen)) 10 (zL [?_,?_,?_,?_,?_,?_,?_,?_,?_,?_]) (λm A e f=>⟨⟨ab e.1.1 f,ai e.1.2 f⟩,ae e.2 f⟩) (⟨⟨s.out,l.out.drew⟩,V⟩) ?_;rotate_right
    iterate 4
     refine zW ?_
    iterate 5
     refine aw zk rfl rfl ?_ ?_
     ·intro m g j b2 M;rw[NB (by simp[Region.wanted,yielded,undef])];exact M.out _ _ (by rfl) zr
     simp only[zS]
    refine zW ?_;refine zD λb3 g j=>?_
    have N:=zh g.1.2;have O:=zh g.1.1;have a:=g.1.1;obtain⟨c0,C,D⟩:=dV a;have F:=ad (o:=0) a;have H:=ad (o:=1) a;have I:=ad (o:=2) a;clear g j a;go_wp2;refine NG (v:= .tuple #[_,(28:Int)]) (aJ results310 _ _ w.heap.size 349 _ (0,0) _ _ rfl rfl (tV O.out) underlying349 rfl (by kernel_rfl)) rfl ?_;exact⟨by rw[L.out];rfl,fk N.out zl⟩
   ·have c1:(T.gen==0)=false:=by simp[q]
    by_cases r:T.blocks=d.blocks
    ·have L:=zh (J.out (by simp[q,r]))
     have c7:=zh r;have c2:(T.blocks !=d.blocks)=false:=by simp[r]
     clear u J q r;go_wp2_with fail;refine zI (λw'=>(w'.heap[w.heap.size]?=some (.cells #[.int .u64 SV.zero.gen,(SV.zero.blocks:Int),(SV.zero.bytes:Int)] 349)/\w'.heap[w.heap.size+1]?=some (.cells #[.int .u64 T.gen,(T.blocks:Int),(T.bytes:Int)] 349)/\Qr w.heap.size w w')/\w'.cell? ⟨w.heap.size+1,0,none⟩=some (.int .u64 T.gen)/\w'.cell? ⟨w.heap.size+1,1,none⟩=some (.int .i64 T.blocks)) 10 (zL [?_,?_,?_,?_,?_,?_,?_,?_,?_,?_]) (λm A e f=>⟨⟨ab e.1.1 f,ab e.1.2.1 f,ai e.1.2.2 f⟩,ae e.2.1 f,ae e.2.2 f⟩) (⟨⟨s.out,t.out,l.out.drew⟩,V,a6⟩) ?_;rotate_right
     iterate 7
      refine zW ?_
     refine aw zk rfl rfl ?_ ?_
     ·intro m g j b2 M;(try dsimp only at g);go_simp;refine zb (iZ (P.out.step g.1.2.2)) λA f=>?_;exact M.out _ _ zz f
     iterate 2
      refine zW ?_
     refine zD λb3 g j=>?_
     have N:=zh g.1.2.2;have O:=zh g.1.1;have a:=g.1.1;have K:=g.1.2.1;obtain⟨c0,C,D⟩:=dV a;obtain⟨V,a6,b9⟩:=dV K;have F:=ad (o:=0) a;have H:=ad (o:=1) a;have I:=ad (o:=2) a;clear g j a K;go_wp2;refine NG (v:= .tuple #[_,()]) (aJ results310 _ _ w.heap.size 349 _ (0,0) _ _ rfl rfl (tV O.out) underlying349 rfl (by kernel_rfl)) rfl ?_;exact⟨by rw[L.out];rfl,fk N.out zl⟩
    ·have L:=zh (u.out (.inr r))
     have c2:(T.blocks !=d.blocks)=true:=by simp[r]
     clear u J q r;go_wp2_with fail;refine zI (λw'=>(w'.heap[w.heap.size]?=some (.cells #[.int .u64 SV.zero.gen,(SV.zero.blocks:Int),(SV.zero.bytes:Int)] 349)/\w'.heap[w.heap.size+1]?=some (.cells #[.int .u64 T.gen,(T.blocks:Int),(T.bytes:Int)] 349)/\Qr w.heap.size w w')/\w'.cell? ⟨w.heap.size+1,0,none⟩=some (.int .u64 T.gen)/\w'.cell? ⟨w.heap.size+1,1,none⟩=some (.int .i64 T.blocks)) 10 (zL [?_,?_,?_,?_,?_,?_,?_,?_,?_,?_]) (λm A e f=>⟨⟨ab e.1.1 f,ab e.1.2.1 f,ai e.1.2.2 f⟩,ae e.2.1 f,ae e.2.2 f⟩) (⟨⟨s.out,t.out,l.out.drew⟩,V,a6⟩) ?_;rotate_right
     iterate 7
      refine zW ?_
     refine aw zk rfl rfl ?_ ?_
     ·intro m g j b2 M;(try dsimp only at g);go_simp;refine zb (iZ (P.out.step g.1.2.2)) λA f=>?_;exact M.out _ _ zz f
     iterate 2
      refine zW ?_
     refine zD λb3 g j=>?_
     have N:=zh g.1.2.2;have O:=zh g.1.1;have a:=g.1.1;obtain⟨c0,C,D⟩:=dV a;have F:=ad (o:=0) a;have H:=ad (o:=1) a;have I:=ad (o:=2) a;clear g j a;go_wp2;refine NG (v:= .tuple #[_,(28:Int)]) (aJ results310 _ _ w.heap.size 349 _ (0,0) _ _ rfl rfl (tV O.out) underlying349 rfl (by kernel_rfl)) rfl ?_;exact⟨by rw[L.out];rfl,fk N.out zl⟩
end
structure aF where
 c:Int
 hi:Int
 lo:Int
 mn:Int
 mx:Int
def Jx(n:Int):Int:=(n+9223372036854775808)%18446744073709551616-9223372036854775808
def aF.zero:aF:=⟨0,0,0,0,0⟩
def aF.ok(a:aF):Prop:=
 (-9223372036854775808<=a.c/\a.c<=9223372036854775807)/\(-9223372036854775808<=a.hi/\a.hi<=9223372036854775807)/\(0<=a.lo/\a.lo<=18446744073709551615)/\
 (-9223372036854775808<=a.mn/\a.mn<=9223372036854775807)/\(-9223372036854775808<=a.mx/\a.mx<=9223372036854775807)
def aF.valid(a:aF):Bool:=decide (1<=a.c/\a.c<=4611686018427387904/\a.mn<=a.mx)
def dP(v:Int):aF:=⟨1,if v<0 then-1 else 0,v%18446744073709551616,v,v⟩
def ea(a b:aF):aF:=
 if a.c=0 then b
 else⟨if a.c<Jx (4611686018427387904-b.c) then Jx (a.c+b.c) else 4611686018427387904,Jx (a.hi+b.hi+(a.lo+b.lo)/18446744073709551616),(a.lo+b.lo)%18446744073709551616,min a.mn b.mn,max a.mx b.mx⟩
def rR(l:List Int):aF:=l.foldl (λa x=>ea a (dP x)) aF.zero
def ey(l:List aF):aF:=l.foldl (λa x=>if x.valid then ea a x else a) aF.zero
def EJ(l:List Int)(x:Int):rR (l++ [x])=ea (rR l) (dP x):=by simp[rR]
def vw(l:List aF)(x:aF):ey (l++ [x])=if x.valid then ea (ey l) x else ey l:=by simp[ey]
def EK(n:Int): -9223372036854775808<=Jx n/\Jx n<=9223372036854775807:=by unfold Jx;omega
def AD(v:Int)(a: -9223372036854775808<=v/\v<=9223372036854775807):(dP v).ok:=by
 unfold dP aF.ok;dsimp only;refine⟨zo,?_,zo,a,a⟩;split<;>omega
def vx(a b:aF)(d:a.ok)(c:b.ok):(ea a b).ok:=by
 unfold ea;split
 ·exact c
 ·unfold aF.ok at*;dsimp only
  refine⟨?_,EK _,zo,zo,zo⟩;split
  ·exact EK _
  ·omega
def tW:aF.zero.ok:=by unfold aF.zero aF.ok;dsimp only;omega
def Kb(l:List Int)(c: ∀x∈l,-9223372036854775808<=x/\x<=9223372036854775807):(rR l).ok:=by
 unfold rR
 suffices∀(l:List Int) (a:aF),a.ok->(∀x∈l,-9223372036854775808<=x/\x<=9223372036854775807)->(l.foldl (λa x=>ea a (dP x)) a).ok from this l _ tW c
 intro l
 induction l with
 |nil=>intro a d _;exact d
 |cons x l e=>intro a d c;exact e _ (vx _ _ d (AD x (c x zm))) (λy f=>c y (by simp[f]))
def BV(l:List aF)(d: ∀x∈l,x.ok):(ey l).ok:=by
 unfold ey
 suffices∀(l:List aF) (a:aF),a.ok->(∀x∈l,x.ok)->(l.foldl (λa x=>if x.valid then ea a x else a) a).ok from this l _ tW d
 intro l
 induction l with
 |nil=>intro a c _;exact c
 |cons x l e=>
  intro a c d;refine e _ ?_ (λy f=>d y (by simp[f]));dsimp only;split
  ·exact vx _ _ c (d x zm)
  ·exact c
def aF.val(a:aF):Qn:= .agg #[(a.c:Int),(a.hi:Int),.int .u64 a.lo,(a.mn:Int),(a.mx:Int)]
def na(c e f a d:Int)(w:Qm):
 Qo zP 344 #[.agg #[c,e,.int .u64 f,a,d]] w (aK w (.bool (aF.valid ⟨c,e,f,a,d⟩))):=by
 have H:=zh (show∀b,b=aF.valid ⟨c,e,f,a,d⟩->aK w (.bool (aF.valid ⟨c,e,f,a,d⟩)) (.returned (.bool b)) (w.alloc (.cells #[c,e,.int .u64 f,a,d] 63)) from λb g=>⟨by rw[g],aL zr zl⟩)
 skip
 by_cases h:1<=c
 ·by_cases i:c<=4611686018427387904
  ·by_cases j:a<=d
   ·go_enter func344,ntmps344
    go_wp2;go_ret;refine H _ ?_;simp[aF.valid];omega
   ·go_enter func344,ntmps344
    go_wp2;go_ret;refine H _ ?_;simp[aF.valid];omega
  ·go_enter func344,ntmps344
   go_wp2
   all_goals go_ret
   all_goals refine H _ ?_
   all_goals simp[aF.valid];omega
 ·go_enter func344,ntmps344
  go_wp2
  all_goals go_ret
  all_goals refine H _ ?_
  all_goals simp[aF.valid];omega
def HY{c d e f g:Int}(a:aF)(h:c=a.c)(i:d=a.hi)(j:e=a.lo)(k:f=a.mn)(l:g=a.mx):
 Ending.returned (.agg #[c,d,.int .u64 e,f,g])= .returned a.val:=by subst h i j k l;rfl
def HZ(v:Int)(w:Qm)(a: -9223372036854775808<=v/\v<=9223372036854775807):
 Qo zP 348 #[v] w (aK w (dP v).val):=by
 go_enter func348,ntmps348;go_wp2;refine NG (v:= .agg #[(1:Int),(v/9223372036854775808:Int),.int .u64 (IntKind.u64.wrap v),v,v]) (by simp[results,results348,go_sem]) rfl ⟨HY _ rfl ?_ ?_ rfl rfl,aL zr zl⟩
 ·unfold dP;dsimp only;split<;>omega
 ·unfold dP;dsimp only;simp[IntKind.wrap,IntKind.bits,IntKind.signed]
def qm(x y c:Int)(a:0<=x)(d:0<=y)(f:0<=c)(g:c<=1)(w:Qm):
 (callFunc 406 #[.int .u64 x,.int .u64 y,.int .u64 c]).run zP w= .ok (.value (.tuple #[.int .u64 ((x+y+c)%18446744073709551616),.int .u64 ((x+y+c)/18446744073709551616)])) w:=by
 rw[run_callFunc_extern (e:=add64Entry) func406 zk zk zk zk,run_add64 x y c a d f g w];rfl
def xU(a g d n1 h c e l2 n2 f:Int)(j:aF.ok ⟨c,e,l2,n2,f⟩)(i: ¬a=0):
 ea ⟨a,g,d,n1,h⟩ ⟨c,e,l2,n2,f⟩=⟨if a<wrap64 (4611686018427387904-c) then wrap64 (a+c) else 4611686018427387904,
  wrap64 ((IntKind.u64.wrap g+IntKind.u64.wrap e+(d+l2)/18446744073709551616)%18446744073709551616),(d+l2)%18446744073709551616,min n1 n2,max h f⟩:=by
 unfold ea;rw[NB i];simp only[aF.mk.injEq];refine⟨by unfold Jx wrap64;rfl,?_,trivial,trivial,trivial⟩;simp[IntKind.wrap,IntKind.bits,IntKind.signed,Jx,wrap64];omega
def vy(h g e n1 d i f l2 n2 c:Int)(w:Qm)(l:aF.ok ⟨h,g,e,n1,d⟩)(k:aF.ok ⟨i,f,l2,n2,c⟩):
 Qo zP 345 #[.agg #[h,g,.int .u64 e,n1,d],.agg #[i,f,.int .u64 l2,n2,c]] w
  (aK w (ea ⟨h,g,e,n1,d⟩ ⟨i,f,l2,n2,c⟩).val):=by
 by_cases j:h=0
 ·have R:Qs (ea ⟨h,g,e,n1,d⟩ ⟨i,f,l2,n2,c⟩=⟨i,f,l2,n2,c⟩):=zh (by unfold ea;rw[NH j])
  have o:(h==0)=true:=by simpa using j
  clear l k j;go_enter func345,ntmps345;go_wp2;rw[R];refine NG (v:= .agg #[i,f,.int .u64 l2,n2,c]) (by simp[results,results345,go_sem]<;>omega) rfl ⟨rfl,aL (aL (aL zr zl) zB) zB⟩
 ·have R:=zh (xU h g e n1 d i f l2 n2 c k j)
  unfold aF.ok at l k;dsimp only at l k;obtain⟨s,t,p,u,x⟩:=l;obtain⟨y,A,q,B,C⟩:=k;have o:(h==0)=false:=by simpa using j
  have D:=λw=>qm e l2 0 p.1 q.1 zo zo w
  have E:=λw=>qm (IntKind.u64.wrap g) (IntKind.u64.wrap f) ((e+l2)/18446744073709551616) (by simp[IntKind.wrap,IntKind.bits,IntKind.signed];omega) (by simp[IntKind.wrap,IntKind.bits,IntKind.signed];omega) zo zo w
  clear j;rw[R];by_cases n:h<wrap64 (4611686018427387904-i)
  ·rw[NH n]
   by_cases r:n2<n1
   ·have a:min n1 n2=n2:=zo
    rw[a];clear a;by_cases m:c<=d
    ·have a:max d c=d:=zo
     rw[a];clear a;go_enter func345,ntmps345;go_wp2;refine NG (v:= .agg #[(wrap64 (h+i):Int),(wrap64 ((IntKind.u64.wrap g+IntKind.u64.wrap f+(e+l2)/18446744073709551616)%18446744073709551616):Int),.int .u64 ((e+l2)%18446744073709551616),n2,d]) (by simp[results,results345,go_sem]<;>omega) rfl ⟨rfl,aL (aL (aL zr zl) zB) zB⟩
    ·have a:max d c=c:=zo
     rw[a];clear a;go_enter func345,ntmps345;go_wp2;refine NG (v:= .agg #[(wrap64 (h+i):Int),(wrap64 ((IntKind.u64.wrap g+IntKind.u64.wrap f+(e+l2)/18446744073709551616)%18446744073709551616):Int),.int .u64 ((e+l2)%18446744073709551616),n2,c]) (by simp[results,results345,go_sem]<;>omega) rfl ⟨rfl,aL (aL (aL zr zl) zB) zB⟩
   ·have a:min n1 n2=n1:=zo
    rw[a];clear a;by_cases m:c<=d
    ·have a:max d c=d:=zo
     rw[a];clear a;go_enter func345,ntmps345;go_wp2;refine NG (v:= .agg #[(wrap64 (h+i):Int),(wrap64 ((IntKind.u64.wrap g+IntKind.u64.wrap f+(e+l2)/18446744073709551616)%18446744073709551616):Int),.int .u64 ((e+l2)%18446744073709551616),n1,d]) (by simp[results,results345,go_sem]<;>omega) rfl ⟨rfl,aL (aL (aL zr zl) zB) zB⟩
    ·have a:max d c=c:=zo
     rw[a];clear a;go_enter func345,ntmps345;go_wp2;refine NG (v:= .agg #[(wrap64 (h+i):Int),(wrap64 ((IntKind.u64.wrap g+IntKind.u64.wrap f+(e+l2)/18446744073709551616)%18446744073709551616):Int),.int .u64 ((e+l2)%18446744073709551616),n1,c]) (by simp[results,results345,go_sem]<;>omega) rfl ⟨rfl,aL (aL (aL zr zl) zB) zB⟩
  ·rw[NB n]
   by_cases r:n2<n1
   ·have a:min n1 n2=n2:=zo
    rw[a];clear a;by_cases m:c<=d
    ·have a:max d c=d:=zo
     rw[a];clear a;go_enter func345,ntmps345;go_wp2;refine NG (v:= .agg #[(4611686018427387904:Int),(wrap64 ((IntKind.u64.wrap g+IntKind.u64.wrap f+(e+l2)/18446744073709551616)%18446744073709551616):Int),.int .u64 ((e+l2)%18446744073709551616),n2,d]) (by simp[results,results345,go_sem]<;>omega) rfl ⟨rfl,aL (aL (aL zr zl) zB) zB⟩
    ·have a:max d c=c:=zo
     rw[a];clear a;go_enter func345,ntmps345;go_wp2;refine NG (v:= .agg #[(4611686018427387904:Int),(wrap64 ((IntKind.u64.wrap g+IntKind.u64.wrap f+(e+l2)/18446744073709551616)%18446744073709551616):Int),.int .u64 ((e+l2)%18446744073709551616),n2,c]) (by simp[results,results345,go_sem]<;>omega) rfl ⟨rfl,aL (aL (aL zr zl) zB) zB⟩
   ·have a:min n1 n2=n1:=zo
    rw[a];clear a;by_cases m:c<=d
    ·have a:max d c=d:=zo
     rw[a];clear a;go_enter func345,ntmps345;go_wp2;refine NG (v:= .agg #[(4611686018427387904:Int),(wrap64 ((IntKind.u64.wrap g+IntKind.u64.wrap f+(e+l2)/18446744073709551616)%18446744073709551616):Int),.int .u64 ((e+l2)%18446744073709551616),n1,d]) (by simp[results,results345,go_sem]<;>omega) rfl ⟨rfl,aL (aL (aL zr zl) zB) zB⟩
    ·have a:max d c=c:=zo
     rw[a];clear a;go_enter func345,ntmps345;go_wp2;refine NG (v:= .agg #[(4611686018427387904:Int),(wrap64 ((IntKind.u64.wrap g+IntKind.u64.wrap f+(e+l2)/18446744073709551616)%18446744073709551616):Int),.int .u64 ((e+l2)%18446744073709551616),n1,c]) (by simp[results,results345,go_sem]<;>omega) rfl ⟨rfl,aL (aL (aL zr zl) zB) zB⟩
def nc(a:aF)(w:Qm):Qo zP 344 #[a.val] w (aK w (.bool a.valid)):=na a.c a.hi a.lo a.mn a.mx w
def EL(a b:aF)(w:Qm)(c:a.ok)(d:b.ok):Qo zP 345 #[a.val,b.val] w (aK w (ea a b).val):=
 vy a.c a.hi a.lo a.mn a.mx b.c b.hi b.lo b.mn b.mx w c d
def bV{w:Qm}{b:Nat}{A:aF}(a:w.heap[b]?=some (.cells #[(A.c:Int),(A.hi:Int),.int .u64 A.lo,(A.mn:Int),(A.mx:Int)] 63)):w.cell? ⟨b,0,none⟩=some (.int .i64 A.c)/\w.cell? ⟨b,1,none⟩=some (.int .i64 A.hi)/\w.cell? ⟨b,2,none⟩=some (.int .u64 A.lo)/\w.cell? ⟨b,3,none⟩=some (.int .i64 A.mn)/\w.cell? ⟨b,4,none⟩=some (.int .i64 A.mx):=by
 refine⟨?_,?_,?_,?_,?_⟩<;>rw[NA w b _ _ _ _ a]<;>rfl
def kp{w:Qm}{b:Nat}{A:aF}(R:aF)(a:w.heap[b]?=some (.cells #[(A.c:Int),(A.hi:Int),.int .u64 A.lo,(A.mn:Int),(A.mx:Int)] 63)):
 (((((w.setCell ⟨b,0,none⟩ (.int .i64 R.c)).setCell ⟨b,1,none⟩ (.int .i64 R.hi)).setCell ⟨b,2,none⟩ (.int .u64 R.lo)).setCell ⟨b,3,none⟩ (.int .i64 R.mn)).setCell ⟨b,4,none⟩ (.int .i64 R.mx)).heap[b]?=some (.cells #[(R.c:Int),(R.hi:Int),.int .u64 R.lo,(R.mn:Int),(R.mx:Int)] 63):=by
 have:=al (i:=4) (al (i:=3) (al (i:=2) (al (i:=1) (al (i:=0) a (.int .i64 R.c)) (.int .i64 R.hi)) (.int .u64 R.lo)) (.int .i64 R.mn)) (.int .i64 R.mx);rw[this];rfl
def kS{w:Qm}{b k:Nat}(R:aF)(a:k≠b):
 (((((w.setCell ⟨b,0,none⟩ (.int .i64 R.c)).setCell ⟨b,1,none⟩ (.int .i64 R.hi)).setCell ⟨b,2,none⟩ (.int .u64 R.lo)).setCell ⟨b,3,none⟩ (.int .i64 R.mn)).setCell ⟨b,4,none⟩ (.int .i64 R.mx)).heap[k]?=w.heap[k]?:=by
 rw[af _ a,af _ a,af _ a,af _ a,af _ a]
def eW{a w:Qm}{B b:Nat}(R:aF)(d:Qr B a w)(c:B<=b):
 Qr B a (((((w.setCell ⟨b,0,none⟩ (.int .i64 R.c)).setCell ⟨b,1,none⟩ (.int .i64 R.hi)).setCell ⟨b,2,none⟩ (.int .u64 R.lo)).setCell ⟨b,3,none⟩ (.int .i64 R.mn)).setCell ⟨b,4,none⟩ (.int .i64 R.mx)):=
 ao (ao (ao (ao (ao d c) c) c) c) c
def EM(l:List Int)(k:Nat)(a:k<l.length):rR (l.take (k+1))=ea (rR (l.take k)) (dP (l.getD k 0)):=by
 rw[kl a,EJ]
def Kc(v:Qn)(l:List Int)(w:Qm)(r:aE w v l):
 Qo zP 280 #[v] w (aK w (rR l).val):=by
 obtain⟨a,c1,rfl,B,c2,C⟩:=r;have Z:=zh C;have D:=zh B;clear C B;go_enter func280,ntmps280;go_wp2;go_loopw [5,8] (λ_ i wr=> ∃(k:Nat) (A:aF),k<=l.length/\i= .int .i64 k/\Qs (A=rR (l.take k))/\Qs (wr.heap[w.heap.size+1]?=some (.cells #[(A.c:Int),(A.hi:Int),.int .u64 A.lo,(A.mn:Int),(A.mx:Int)] 63))/\Qs (wr.heap[w.heap.size]?=some (.cells #[(aF.zero.c:Int),(aF.zero.hi:Int),.int .u64 aF.zero.lo,(aF.zero.mn:Int),(aF.zero.mx:Int)] 63))/\Qr w.heap.size w wr) (λ_ i _=>l.length-(intOf i).toNat)
 case atStart=>
  refine⟨0,aF.zero,Nx _,rfl,rfl,?_,?_,aL (aL zr zl) zm⟩
  ·exact zh (by rw[(zm:w.heap.size+1=(w.alloc (.cells #[(aF.zero.c:Int),(aF.zero.hi:Int),.int .u64 aF.zero.lo,(aF.zero.mn:Int),(aF.zero.mx:Int)] 63)).heap.size)];exact Nu _ _)
  ·exact zh (by rw[Oz _ _ _ zm];exact Nu _ _)
 case round=>
  obtain⟨k,A,c3,rfl,m,n,q,e⟩:=hrel;have c4:=aa n;by_cases g:k<l.length
  ·obtain⟨b,o,rfl,a0,E⟩:=Z (by intro r;simp[r] at g)
   have F:=E k g;have s:=D (l.getD k 0) (by simp[g]);have a1:=(e.cell (p:=⟨b,o+k,none⟩) a0).trans F;obtain⟨x,H⟩:=zy (l.getD k 0);rw[<-H] at a1 s;have a2:=zh (show A.ok by rw[m];exact Kb _ (λy a3=>D y (OO a3)));have f:=n.out;obtain⟨c0,I,J,K,L⟩:=bV f;clear F E;go_wp2_with fail;go_region_with (first|(go_at_call 348;refine zb (HZ _ _ s) λa4 h=>?_;simp only[aF.val];have t:a4.heap[w.heap.size+1]?=_:=ab (show wr.drew.heap[w.heap.size+1]?=_ from f) h;obtain⟨M,N,O,P,Q⟩:=bV t)|(go_at_call 345;refine zb (vy _ _ _ _ _ _ _ _ _ _ _ a2.out (AD _ s)) λS u=>?_;generalize j:ea _ _=R;have a5:=zh j;clear j;simp only[aF.val];have c:S.heap[w.heap.size+1]?=_:=ab t u;obtain⟨a6,a7,a8,a9,b0⟩:=bV c;have T:=ad (o:=0) c;have U:=ad (o:=1) c;have V:=ad (o:=2) c;have W:=ad (o:=3) c;have X:=ad (o:=4) c))
   all_goals
    have b1:=zh (kp R c);have Y:S.heap[w.heap.size]?=_:=ab (ab (show wr.drew.heap[w.heap.size]?=_ from q) h) u;have b2:=zh ((kS (k:=w.heap.size) (b:=w.heap.size+1) R zo).trans Y);have b3:=eW (b:=w.heap.size+1) R (aI (aI e.drew h (by simp;exact e.size)) u (by have:=h.size;have:=e.size;simp at*;omega)) zo;clear a6 a7 a8 a9 b0 M N O P Q T U V W X c t Y c0 I J K L;go_wp2;go_roundw
    case rel=>exact⟨k+1,R,zo,by go_num,by rw[<-a5,H,m];exact zh (EM l k g).symm,b1,b2,b3⟩
    case measure=>simp[intOf];omega
  ·have b4:k=l.length:=zo
   subst b4;have f:=n.out;have d:=q.out;obtain⟨c0,I,J,K,L⟩:=bV f;obtain⟨M,N,O,P,Q⟩:=bV d;have T:=ad (o:=0) d;have U:=ad (o:=1) d;have V:=ad (o:=2) d;have W:=ad (o:=3) d;have X:=ad (o:=4) d;clear f d;go_wp2;have j:=kp A q;obtain⟨b5,b6,b7,b8,b9⟩:=bV j;refine NG (v:=A.val) (by simp[results,results280,go_sem,b5,b6,b7,b8,b9,aF.val]) rfl ⟨by rw[m];simp,eW A e zl⟩
def lk(w:Qm)(v:Qn)(l:List aF):Prop:=
 ∃a c,v= .slice a l.length c/\(∀x∈l,x.ok)/\l.length<=9223372036854775807/\
  (l≠ []-> ∃b o,a=some ⟨b,o,none⟩/\b<w.heap.size/\ ∀j,j<l.length->
   w.cell? ⟨b,o+j*5,none⟩=some (.int .i64 (l.getD j aF.zero).c)/\w.cell? ⟨b,o+j*5+1,none⟩=some (.int .i64 (l.getD j aF.zero).hi)/\w.cell? ⟨b,o+j*5+2,none⟩=some (.int .u64 (l.getD j aF.zero).lo)/\
   w.cell? ⟨b,o+j*5+3,none⟩=some (.int .i64 (l.getD j aF.zero).mn)/\w.cell? ⟨b,o+j*5+4,none⟩=some (.int .i64 (l.getD j aF.zero).mx))
def lk.below{w w':Qm}{v:Qn}{l:List aF}(x:lk w v l)(e:Qr w.heap.size w w'):lk w' v l:=by
 obtain⟨a,c,f,g,h,i⟩:=x;refine⟨a,c,f,g,h,λk=>?_⟩;obtain⟨b,o,m,d,n⟩:=i k;refine⟨b,o,m,No d e.size,λj p=>?_⟩;obtain⟨q,r,s,t,u⟩:=n j p;exact⟨(e.cell d).trans q,(e.cell d).trans r,(e.cell d).trans s,(e.cell d).trans t,(e.cell d).trans u⟩
def aF.row(A:aF):List Qn:= [.int .i64 A.c,.int .i64 A.hi,.int .u64 A.lo,.int .i64 A.mn,.int .i64 A.mx]
def vz: ∀(l:List aF) (j i:Nat),j<l.length->i<5->(l.flatMap aF.row)[j*5+i]?=(l.getD j aF.zero).row[i]?
 | [],_,_,a,_=>by simp at a
 |A::l,0,i,_,c=>by
  rw[NZ,OV (by simp[aF.row];omega)];simp
 |A::l,j+1,i,a,c=>by
  rw[NZ,OE (by simp[aF.row];omega)];have:=vz l j i (by simpa using a) c;rw[show(j+1)*5+i-(aF.row A).length=j*5+i by simp[aF.row];omega,this];simp
def vA{w:Qm}{b c:Nat}{l:List aF}{T:Qp}{fr:Nat×Nat}(a:w.heap[b]?=some (.cells (l.flatMap aF.row).toArray T fr))(f: ∀x∈l,x.ok)(h:l.length<=9223372036854775807):
 lk w (.slice (some ⟨b,0,none⟩) l.length c) l:=by
 refine⟨_,_,rfl,f,h,λ_=>⟨b,0,rfl,aa a,λj d=>?_⟩⟩
 have g: ∀i,i<5->w.cell? ⟨b,0+j*5+i,none⟩=(l.getD j aF.zero).row[i]?:=λi e=>by
  rw[NA w b _ _ _ _ a,Ok,List.getElem?_toArray,vz l j i d e]
 exact⟨g 0 zo,g 1 zo,g 2 zo,g 3 zo,g 4 zo⟩
def EN{w:Qm}{b c:Nat}{l:List aF}{a:Array Qn}{T:Qp}{fr:Nat×Nat}(d:w.heap.size=b)(e:a=(l.flatMap aF.row).toArray)(f: ∀x∈l,x.ok)(g:l.length<=9223372036854775807):
 lk (w.alloc (.cells a T fr)) (.slice (some ⟨b,0,none⟩) l.length c) l:=by subst e;exact vA (ag d) f g
def xV{l:List aF}{k:Nat}(a:k<l.length):l.take (k+1)=l.take k++ [l.getD k aF.zero]:=by
 rw[NE a];simp[a]
def vB(l:List aF)(k:Nat)(a:k<l.length):ey (l.take (k+1))=if (l.getD k aF.zero).valid then ea (ey (l.take k)) (l.getD k aF.zero) else ey (l.take k):=by
 rw[xV a,vw]
def BW(v:Qn)(l:List aF)(w:Qm)(E:lk w v l):
 Qo zP 276 #[v] w (aK w (ey l).val):=by
 obtain⟨a,c5,rfl,O,c6,P⟩:=E;have X:=zh P;have Q:=zh O;clear P O;go_enter func276,ntmps276;go_wp2;go_loopw [5,8] (λ_ i wr=> ∃(k:Nat) (A:aF),k<=l.length/\i= .int .i64 k/\Qs (A=ey (l.take k))/\Qs (wr.heap[w.heap.size+1]?=some (.cells #[(A.c:Int),(A.hi:Int),.int .u64 A.lo,(A.mn:Int),(A.mx:Int)] 63))/\Qs (wr.heap[w.heap.size]?=some (.cells #[(aF.zero.c:Int),(aF.zero.hi:Int),.int .u64 aF.zero.lo,(aF.zero.mn:Int),(aF.zero.mx:Int)] 63))/\Qr w.heap.size w wr) (λ_ i _=>l.length-(intOf i).toNat)
 case atStart=>
  refine⟨0,aF.zero,Nx _,rfl,rfl,?_,?_,aL (aL zr zl) zm⟩
  ·exact zh (by rw[(zm:w.heap.size+1=(w.alloc (.cells #[(aF.zero.c:Int),(aF.zero.hi:Int),.int .u64 aF.zero.lo,(aF.zero.mn:Int),(aF.zero.mx:Int)] 63)).heap.size)];exact Nu _ _)
  ·exact zh (by rw[Oz _ _ _ zm];exact Nu _ _)
 case round=>
  obtain⟨k,A,c7,rfl,n,C,D,d⟩:=hrel;have Y:=aa C;by_cases p:k<l.length
  ·obtain⟨b,o,rfl,h,S⟩:=X (by intro E;simp[E] at p)
   obtain⟨q,r,s,t,u⟩:=S k p;have F:=Q (l.getD k aF.zero) (by simp[p]);replace q:=(d.cell h).trans q;replace r:=(d.cell h).trans r;replace s:=(d.cell h).trans s;replace t:=(d.cell h).trans t;replace u:=(d.cell h).trans u;obtain⟨c,H⟩:=zy (l.getD k aF.zero);rw[<-H] at q r s t u F;have Z:=zh F;have a0:=zh (show A.ok by rw[n];exact BV _ (λy a1=>Q y (OO a1)));have j:=C.out;clear S F;have x:=zh (vB l k p);go_wp2_with fail;refine zb (nc c _) λa2 m=>?_
   have T:(wr.alloc (.cells #[(c.c:Int),(c.hi:Int),.int .u64 c.lo,(c.mn:Int),(c.mx:Int)] 63)).heap[wr.heap.size]?=_:=Nu _ _;have I:=zh (ab ((Oz wr (.cells #[(c.c:Int),(c.hi:Int),.int .u64 c.lo,(c.mn:Int),(c.mx:Int)] 63) _ Y).trans j) m);have a3:=zh (ab T m);have U:=zh (ab ((Oz wr (.cells #[(c.c:Int),(c.hi:Int),.int .u64 c.lo,(c.mn:Int),(c.mx:Int)] 63) _ zo).trans D) m);have V:=aI (aL (o:= .cells #[(c.c:Int),(c.hi:Int),.int .u64 c.lo,(c.mn:Int),(c.mx:Int)] 63) d d.size) m (by simp;have:=d.size;omega);have c8:wr.heap.size<a2.heap.size:=by have:=m.size;simp at this;omega
   clear j T q r s t u;by_cases g:c.valid=true
   ·rw[g]
    rw[<-H,NH g] at x;obtain⟨c0,J,K,L,M⟩:=bV I.out;obtain⟨a4,a5,a6,a7,a8⟩:=bV a3.out;clear g;go_wp2_with fail;refine zb (EL A c _ a0.out Z) λc9 N=>?_
    generalize B:ea A c=R
    have a9:=zh B;clear B c0 J K L M a4 a5 a6 a7 a8;simp only[aF.val];have e:=ab I.out N;obtain⟨c0,J,K,L,M⟩:=bV e;have b0:=ad (o:=0) e;have b1:=ad (o:=1) e;have b2:=ad (o:=2) e;have b3:=ad (o:=3) e;have b4:=ad (o:=4) e;have b5:=zh (kp R e);have b6:=zh ((kS (k:=w.heap.size) (b:=w.heap.size+1) R zo).trans (ab U.out N));have b7:=eW (b:=w.heap.size+1) R (aI V N zo) zo;clear e;go_wp2;go_roundw
    case rel=>exact⟨k+1,R,zo,by go_num,by rw[<-a9,n];exact x.symm,b5,b6,b7⟩
    case measure=>simp[intOf];omega
   ·have W:c.valid=false:=by simpa using g
    rw[W];rw[<-H,NB g] at x;clear g W;go_wp2;go_roundw
    case rel=>exact⟨k+1,A,zo,by go_num,by rw[n];exact x.symm,I,U,V⟩
    case measure=>simp[intOf];omega
  ·have b8:k=l.length:=zo
   subst b8;have j:=C.out;have f:=D.out;obtain⟨c0,J,K,L,M⟩:=bV j;obtain⟨d0,d1,d2,d3,d4⟩:=bV f;have b0:=ad (o:=0) f;have b1:=ad (o:=1) f;have b2:=ad (o:=2) f;have b3:=ad (o:=3) f;have b4:=ad (o:=4) f;clear j f;go_wp2;have B:=kp A D;obtain⟨b9,c1,c2,c3,c4⟩:=bV B;refine NG (v:=A.val) (by simp[results,results276,go_sem,b9,c1,c2,c3,c4,aF.val]) rfl ⟨by rw[n];simp,eW A d zl⟩
def gi:(zP.info? 3).map (λi=>(i.zero,i.size,i.bytes))=some (some (.int .i64 0),1,8):=zk
def eb(n:Nat):Bool:=decide (97<=n/\n<=122)||decide (48<=n/\n<=57)||decide (n=46)||decide (n=95)||decide (n=45)
def bn(s:Qt):Bool:=decide (1<=s.size/\s.size<=15)&&s.data.toList.all (λc=>eb c.toNat)
def vC(n:Nat)(w:Qm)(a:n<=255):Qo zP 80 #[.int .u8 n] w (aK w (.bool (eb n))):=by
 go_enter func80,ntmps80;go_wp2
 all_goals go_ret
 all_goals exact⟨bu (by unfold eb;rw[PA];simp;omega),ND _ _⟩
def oz{s:Qt}{j:Nat}(a:j<s.size):s.data.toList.take (j+1)=s.data.toList.take j++ [s.data[j]'a]:=by
 rw[NE (by simpa using a)];simp
def dw(v:Qn)(l:List Qt)(w:Qm)(P:bq w v l):Qo zP 32 #[v] w (aK w (.bool (l.all bn))):=by
 obtain⟨a,Q,rfl,n,R,r⟩:=P;have C:=zh r;have D:=zh n;clear r n;go_enter func32,ntmps32;go_wp2;go_loopw [8] (λi wr=> ∃(k:Nat),k<=l.length/\i= .int .i64 k/\Qs ((l.take k).all bn=true)/\Qr w.heap.size w wr) (λi _=>l.length-(intOf i).toNat)
 case atStart=>exact⟨0,Nx _,rfl,zh zm,ND _ _⟩
 case round=>
  obtain⟨k,S,rfl,t,e⟩:=hrel;by_cases d:k<l.length
  ·obtain⟨b,o,rfl,E,u⟩:=C (by intro g;simp[g] at d)
   have F:=(e.cell (p:=⟨b,o+k,none⟩) E).trans (u k d);have H:=D (l.getD k ByteArray.empty) (by simp[d]);obtain⟨s,f⟩:=zx (l.getD k ByteArray.empty);rw[<-f] at F H;have I:=zh (show l.take (k+1)=l.take k++ [s] by rw[NE d,f];simp[d])
   have h:=zh (show bn s=false->l.all bn=false by
    intro g;rw[List.all_eq_false];exact⟨s,by rw[f];simp[d],by simp[g]⟩)
   clear f u;by_cases T:s.size<1
   ·have x:(s.size:Int)<1:=zo
    go_wp2;go_ret;exact⟨bu (by rw[h];unfold bn;simp;omega),e⟩
   ·by_cases U:15<s.size
    ·have J:15<(s.size:Int):=zo
     have x:1<=(s.size:Int):=zo;go_wp2;go_ret;exact⟨bu (by rw[h];unfold bn;simp;omega),e⟩
    ·have J:(s.size:Int)<=15:=zo
     have x:1<=(s.size:Int):=zo;go_wp2;go_loopw [22] (λi K=> ∃(j:Nat),j<=s.size/\i= .int .i64 j/\Qs ((s.data.toList.take j).all (λc=>eb c.toNat)=true)/\Qr w.heap.size w K) (λi _=>s.size-(intOf i).toNat)
     case atStart=>exact⟨0,Nx _,rfl,zh zm,e⟩
     case round=>
      obtain⟨j,V,rfl,y,A⟩:=hrel;by_cases L:j<s.size
      ·have W:0<=(s[j].toNat:Int)/\(s[j].toNat:Int)<=255:=by have:=s[j].toNat_lt;omega
       go_wp2_with fail;refine zb (vC _ _ (by have:=s[j].toNat_lt;omega)) λX M=>?_
       have B:=ai A M;obtain⟨q,m⟩:=zy (eb s[j].toNat);rw[<-m];cases q
       ·go_wp2
        go_ret;refine⟨bu ?_,B⟩;rw[h];unfold bn;rw[Bool.and_eq_false_iff,List.all_eq_false];exact .inr ⟨s[j],by simp[NY],by rw[<-m];simp⟩
       ·go_wp2
        go_roundw
        case rel=>exact⟨j+1,zo,by go_num,zh (by rw[oz L,Qi,y];simp;exact m.symm),B⟩
        case measure=>simp[intOf];omega
      ·have N:j=s.size:=zo
       subst N;go_wp2;go_roundw
       case rel=>exact⟨k+1,zo,by go_num,zh (by
        rw[I,Qi,t];have:=y.out;rw[NC zm] at this;simp[bn,this];omega),A⟩
       case measure=>simp[intOf];omega
  ·have O:k=l.length:=zo
   subst O;go_wp2;go_ret;exact⟨bu (by have:=t.out;rw[OA] at this;rw[this]),e⟩
section
open Go.MapKept Go.ChangeMaps
structure Ch(F:Nat->Prop)(w w':Qm):Prop where
 os:w'.os=w.os
 tape:w'.tape=w.tape
 output:w'.output=w.output
 size:w.heap.size<=w'.heap.size
 block: ∀k,k<w.heap.size-> ¬F k->w'.heap[k]?=w.heap[k]?
section
variable{F G:Nat->Prop}{w w' a b c:Qm}
def Ch.refl(F:Nat->Prop)(w:Qm):Ch F w w:=⟨rfl,rfl,rfl,Nt _,λ_ _ _=>rfl⟩
def Ch.trans(d:Ch F a b)(k:Ch F b c):Ch F a c:=⟨k.os.trans d.os,k.tape.trans d.tape,k.output.trans d.output,Nq d.size k.size,λi e f=>(k.block i (No e d.size) f).trans (d.block i e f)⟩
def Ch.mono(c:Ch F a b)(g: ∀k,k<a.heap.size->F k->G k):Ch G a b:=⟨c.os,c.tape,c.output,c.size,λi d e=>c.block i d λf=>e (g i d f)⟩
def Ch.of_below{B:Nat}(a:Qr B w w')(f: ∀k,k<w.heap.size->B<=k->F k):Ch F w w':=⟨a.os,a.tape,a.output,a.size,λk d e=>a.block k (by
 rcases Qa k B with c|c
 ·exact c
 ·exact absurd (f k d c) e)⟩
def Ch.fresh(c:Qr w.heap.size w w'):Ch F w w':= .of_below c λk a d=>absurd a zo
def Ch.below{B:Nat}(a:Ch F w w')(d: ∀k,F k->B<=k)(f:B<=w.heap.size):Qr B w w':=⟨a.os,a.tape,a.output,a.size,λk e=>a.block k zo λc=>by have:=d k c;omega⟩
def Ch.keep(c:Ch F w w'){k:Nat}{o:Obj}(a:w.heap[k]?=some o)(d: ¬F k):w'.heap[k]?=some o:=(c.block k (aa a) d).trans a
end
section
variable{κ α:Type}[DecidableEq κ]
def bf:List (κ×α)->κ->Option α
 | [],_=>none
 |p::l,k=>if p.1=k then some p.2 else bf l k
def cn:List (κ×α)->κ->α->List (κ×α)
 | [],k,v=> [(k,v)]
 |p::l,k,v=>if p.1=k then(k,v)::l else p::cn l k v
def iH:List (κ×α)->κ->List (κ×α)
 | [],_=> []
 |p::l,k=>if p.1=k then l else p::iH l k
def fP: ∀{l:List (κ×α)} {k:κ},(∀p∈l,p.1≠k)->bf l k=none/\(∀v,cn l k v=l++ [(k,v)])/\iH l k=l
 | [],k,_=>⟨rfl,λ_=>rfl,rfl⟩
 |p::l,k,c=>by
  have a:=c p zm;obtain⟨d,e,f⟩:=fP (l:=l) (k:=k) (λq hq=>c q (by simp[hq]));exact⟨by simp[bf,a,d],λv=>by simp[cn,a,e],by simp[iH,a,f]⟩
def lY: ∀{l:List (κ×α)} {j:Nat} {p:κ×α},l[j]?=some p->(l.map (·.1)).Nodup->bf l p.1=some p.2/\(∀v,cn l p.1 v=l.set j (p.1,v))/\iH l p.1=l.eraseIdx j
 | [],j,p,a,_=>by simp at a
 |q::l,0,p,a,_=>by
  simp at a;subst a;exact⟨by simp[bf],λv=>by simp[cn],by simp[iH]⟩
 |q::l,j+1,p,a,c=>by
  simp only[Oq,PX] at c;have f:l[j]?=some p:=by simpa using a
  have d:q.1≠p.1:=λe=>c.1 (by rw[e];exact OI.2 ⟨p,NO f,rfl⟩)
  obtain⟨g,h,i⟩:=lY f c.2;exact⟨by simp[bf,d,g],λv=>by simp[cn,d,h],by simp[iH,d,i]⟩
end
structure tX(P:Program)(K:Qp){κ α:Type}(ek:κ->Qn)(ev:α->Qn)(es:Array MapEntry)(clock:Nat)(l:List (κ×α)):Prop where
 kv:es.toList.map (λe=>(e.key,e.val))=l.map (λp=>(ek p.1,ev p.2))
 key: ∀p∈l,∃q,keyOf P K (ek p.1)=some q
 nodup:(l.map (·.1)).Nodup
 born:es.toList.Pairwise (λx y=>x.born<y.born)
 clk: ∀e∈es.toList,e.born<clock
def bL(P:Program)(K:Qp){κ α:Type}(ek:κ->Qn)(ev:α->Qn)(w:Qm)(b:Nat)(l:List (κ×α)):Prop:=
 ∃es clock,w.heap[b]?=some (.map es clock)/\tX P K ek ev es clock l
section
variable{P:Program}{K E T ty:Qp}{κ α:Type}{ek:κ->Qn}{ev:α->Qn}{w w':Qm}{b:Nat}{l:List (κ×α)}{es:Array MapEntry}{clock:Nat}
def bL.lt(a:bL P K ek ev w b l):b<w.heap.size:=by obtain⟨_,_,a,_⟩:=a;exact aa a
def bL.step(e:bL P K ek ev w b l)(f:w'.heap[b]?=w.heap[b]?):bL P K ek ev w' b l:=by obtain⟨es,c,a,d⟩:=e;exact⟨es,c,f.trans a,d⟩
def bL.below(a:bL P K ek ev w b l)(c:Qr w.heap.size w w'):bL P K ek ev w' b l:=a.step (c.block b a.lt)
def bL.ch{F:Nat->Prop}(a:bL P K ek ev w b l)(c:Ch F w w')(d: ¬F b):bL P K ek ev w' b l:=a.step (c.block b a.lt d)
def bL.new(P:Program)(K:Qp)(ek:κ->Qn)(ev:α->Qn)(w:Qm):bL P K ek ev (w.alloc (.map #[] 0)) w.heap.size []:=
 ⟨_,_,Nu _ _,rfl,zm,zm,zm,zm⟩
def tX.len(a:tX P K ek ev es clock l):es.size=l.length:=by
 have:=Of List.length a.kv;simpa using this
def tX.at_(c:tX P K ek ev es clock l){j:Nat}{e:MapEntry}(d:es.toList[j]?=some e): ∃p,l[j]?=some p/\e.key=ek p.1/\e.val=ev p.2:=by
 have a:=Of (·[j]?) c.kv;simp only[OG,d,PY] at a;cases hl:l[j]? with
 |none=>rw[hl] at a;cases a
 |some p=>
  rw[hl] at a;simp only[PY,OF,Pb] at a;exact⟨p,rfl,a.1,a.2⟩
def tX.keys(a:tX P K ek ev es clock l): ∀e∈es.toList,∃q,keyOf P K e.key=some q:=λe c=>by
 obtain⟨j,d⟩:=PG c;obtain⟨p,f,g,_⟩:=a.at_ d;rw[g];exact a.key p (NO f)
def tX.find [DecidableEq κ](c:tX P K ek ev es clock l)(s:Maps.Keyed P K)(t: ∀x y:κ,ek x=ek y->x=y)(w:Qm){k:κ}{q:Lit}(u:keyOf P K (ek k)=some q):
 ((Instr.findKey K (ek k) es.toList).run P w= .ok none w/\ ∀p∈l,p.1≠k)\/ ∃j v,(Instr.findKey K (ek k) es.toList).run P w= .ok (some (j,ev v)) w/\l[j]?=some (k,v)/\ ∃e,es[j]?=some e/\e.key=ek k:=by
 rcases s.find w u es.toList c.keys with⟨d,a⟩|⟨j,e,d,a,h⟩
 ·refine .inl ⟨d,λp f e=>?_⟩
  obtain⟨j,i⟩:=PG f;have m:j<es.toList.length:=by have:=c.len;have:=(Ny.1 i).1;simp;omega
  obtain⟨A,n,g,_⟩:=c.at_ (Np m);rw[i] at n;obtain rfl:=Oa n;exact a _ (NT m) (by rw[g,e])
 ·obtain⟨p,f,g,o⟩:=c.at_ a
  have r:p.1=k:=t _ _ (g.symm.trans h);exact .inr ⟨j,p.2,by rw[d,o],by rw[f,<-r],e,by simpa using a,h⟩
variable [DecidableEq κ]
def hC(z:Qn)(ev:α->Qn)(ok:Bool)(o:Option α):Qn:=if ok then .tuple #[o.elim z ev,o.isSome] else o.elim z ev
def bL.look(a:bL P K ek ev w b l)(f:Maps.Keyed P K)(m: ∀x y:κ,ek x=ek y->x=y)(i:P.underlying T=some (.map K E)){z:Qn}(n:(zeroValue E).run P w= .ok z w)(ok:Bool){k:κ}{q:Lit}(g:keyOf P K (ek k)=some q):
 (Instr.lookup T (.map (some b)) (ek k) ok).run P w= .ok (hC z ev ok (bf l k)) w:=by
 obtain⟨es,clock,h,a⟩:=a;rcases a.find f m w g with⟨c,d⟩|⟨j,v,c,d,_⟩
 ·simp[Instr.lookup,run_underlying i,MapKept.run_getObj_map h,f.check w _ g,c,n,Result.andThen,(fP d).1,hC]
 ·have e:bf l k=some v:=(lY d a.nodup).1
  simp[Instr.lookup,run_underlying i,MapKept.run_getObj_map h,f.check w _ g,c,Result.andThen,e,hC]
def tX.push(c:tX P K ek ev es clock l){k:κ}{q:Lit}(h:keyOf P K (ek k)=some q)(i: ∀p∈l,p.1≠k)(v:α):tX P K ek ev (es.push ⟨ek k,ev v,clock⟩) (clock+1) (l++ [(k,v)]):=by
 refine⟨by simp[c.kv],λp a=>?_,?_,?_,λe f=>?_⟩
 ·rcases Og.1 a with a|a
  ·exact c.key p a
  ·simp at a;subst a;exact⟨q,h⟩
 ·rw[NU,PD]
  refine⟨c.nodup,zm,λx g y d=>?_⟩;obtain⟨p,a,rfl⟩:=OI.1 g;simp at d;subst d;exact i p a
 ·rw[Array.toList_push,List.pairwise_append]
  exact⟨c.born,zm,λx g y d=>by simp at d;subst d;exact c.clk x g⟩
 ·simp only[Array.toList_push,Og,Nz] at f
  rcases f with f|rfl
  ·have:=c.clk e f;omega
  ·show clock<clock+1;omega
def tY{es:List MapEntry}{j:Nat}{e x:MapEntry}(f:es[j]?=some e)(g:x.born=e.born):(es.set j x).map (·.born)=es.map (·.born):=by
 rw[Qk,g];refine Qc λi=>?_
 rw[Pq];split
 ·rename_i a;subst a
  obtain⟨c,d⟩:=Ny.1 f;simp[c,d]
 ·rfl
def ip{es:List MapEntry}:es.Pairwise (λx y=>x.born<y.born)↔(es.map (·.born)).Pairwise (·< ·):=by rw[List.pairwise_map]
def tX.over(a:tX P K ek ev es clock l){k:κ}{j:Nat}{m:α}(n:l[j]?=some (k,m)){e:MapEntry}(s:es[j]?=some e)(v:α):
 tX P K ek ev (es.modify j (λe=>{e with key:=ek k,val:=ev v})) clock (l.set j (k,v)):=by
 have d:es.toList[j]?=some e:=by simpa using s
 have f:(es.modify j (λo=>{o with key:=ek k,val:=ev v})).toList=es.toList.set j {e with key:=ek k,val:=ev v}:=by rw[Array.toList_modify,modify_eq_set _ _ _ _ d]
 have q:=tY (x:={e with key:=ek k,val:=ev v}) d rfl;refine⟨?_,λp g=>?_,?_,?_,λx c=>?_⟩
 ·rw[f,Qk,Qk,a.kv]
 ·rcases Pf g with g|rfl
  ·exact a.key p g
  ·exact a.key (k,m) (NO n)
 ·have:(l.set j (k,v)).map (·.1)=l.map (·.1):=by
   rw[Qk];refine Qc λi=>?_
   rw[Pq];split
   ·rename_i h;subst h
    obtain⟨h,r⟩:=Ny.1 n;simp[h,r]
   ·rfl
  rw[this];exact a.nodup
 ·rw[f,ip,q,<-ip];exact a.born
 ·rw[f] at c
  rcases Pf c with c|rfl
  ·exact a.clk x c
  ·exact a.clk e (NO d)
def jK{w:Qm}{b:Nat}{o o':Obj}(d:w.heap[b]?=some o):Ch (·=b) w (setBlock w b o'):=by
 refine⟨rfl,rfl,rfl,by simp[setBlock],λk c a=>?_⟩;simp only[setBlock];rw[Pe (λe=>a e.symm)]
def en{w:Qm}{b:Nat}{o o':Obj}(a:w.heap[b]?=some o):(setBlock w b o').heap[b]?=some o':=by
 have:=aa a;simp[setBlock,this]
def bL.put(c:bL P K ek ev w b l)(g:Maps.Keyed P K)(o: ∀x y:κ,ek x=ek y->x=y)(m:P.underlying T=some (.map K E)){k:κ}{q:Lit}(f:keyOf P K (ek k)=some q)(v:α):
 ∃w',(Instr.mapUpdate T (.map (some b)) (ek k) (ev v)).run P w= .ok () w'/\bL P K ek ev w' b (cn l k v)/\Ch (·=b) w w'/\w'.heap.size=w.heap.size:=by
 obtain⟨es,clock,a,c⟩:=c;rcases c.find g o w f with⟨h,d⟩|⟨j,p,h,d,e,i,n⟩
 ·refine⟨setBlock w b (.map (es.push ⟨ek k,ev v,clock⟩) (clock+1)),?_,⟨_,_,en a,by rw[(fP d).2.1];exact c.push f d v⟩,jK a,by simp[setBlock]⟩
  simp[Instr.mapUpdate,run_underlying m,MapKept.run_getObj_map a,g.check w false f,h,MapKept.run_setObj_map _ a,Result.andThen,setBlock]
 ·refine⟨setBlock w b (.map (es.modify j (λe=>{e with key:=ek k,val:=ev v})) clock),?_,⟨_,_,en a,by rw[(lY d c.nodup).2.1];exact c.over d i v⟩,jK a,by simp[setBlock]⟩
  simp[Instr.mapUpdate,run_underlying m,MapKept.run_getObj_map a,g.check w false f,h,i,n,g.stays w f,MapKept.run_setObj_map _ a,Result.andThen,setBlock]
def tX.erase(a:tX P K ek ev es clock l)(j:Nat):tX P K ek ev (es.eraseIdxIfInBounds j) clock (l.eraseIdx j):=by
 have c:(es.eraseIdxIfInBounds j).toList=es.toList.eraseIdx j:=by
  unfold Array.eraseIdxIfInBounds;split
  ·simp
  ·rename_i e
   rw[List.eraseIdx_of_length_le (by simpa using e)]
 refine⟨?_,λp f=>a.key p ((Ph _ _).subset f),?_,?_,λx d=>?_⟩
 ·rw[c,map_eraseIdx,a.kv,<-map_eraseIdx]
 ·exact List.Nodup.sublist ((Ph _ _).map _) a.nodup
 ·rw[c];exact List.Pairwise.sublist (Ph _ _) a.born
 ·rw[c] at d
  exact a.clk x ((Ph _ _).subset d)
def bL.del(c:bL P K ek ev w b l)(g:Maps.Keyed P K)(m: ∀x y:κ,ek x=ek y->x=y)(i:P.underlying T=some (.map K E)){k:κ}{q:Lit}(h:keyOf P K (ek k)=some q)(ty:Qp):
 ∃w',(Builtin.delete_ #[T,K] ty #[.map (some b),ek k]).run P w= .ok (.tuple #[]) w'/\bL P K ek ev w' b (iH l k)/\Ch (·=b) w w'/\w'.heap.size=w.heap.size:=by
 obtain⟨es,clock,a,c⟩:=c;rcases c.find g m w h with⟨d,f⟩|⟨j,n,d,f,e,o,p⟩
 ·refine⟨setBlock w b (.map es clock),?_,⟨_,_,en a,by rw[(fP f).2.2];exact c⟩,jK a,by simp[setBlock]⟩
  simp[Builtin.delete_,run_underlying i,MapKept.run_getObj_map a,g.check w _ h,d,MapKept.run_setObj_map _ a,Result.andThen,setBlock]
 ·refine⟨setBlock w b (.map (es.eraseIdxIfInBounds j) clock),?_,⟨_,_,en a,by rw[(lY f c.nodup).2.2];exact c.erase j⟩,jK a,by simp[setBlock]⟩
  simp[Builtin.delete_,run_underlying i,MapKept.run_getObj_map a,g.check w _ h,d,MapKept.run_setObj_map _ a,Result.andThen,setBlock]
omit [DecidableEq κ] in
def bL.len(a:bL P K ek ev w b l)(d:P.underlying T=some (.map K E))(ty:Qp):(Builtin.len_ #[T] ty #[.map (some b)]).run P w= .ok (.int .i64 l.length) w:=by
 obtain⟨es,clock,c,a⟩:=a;simp[Builtin.len_,run_underlying d,MapKept.run_getObj_map c,Result.andThen,a.len,goInt]
variable{ops:Array Oper}{rest:List Oper}{o:Oper}{a:Act}{Q:Exit->Act->Qm->Prop}
def dt(g:o.guard=none)(m x v:Operand)(h:o.op=Op.mapUpdate T m x v)(i:bL P K ek ev w b l)(j:Maps.Keyed P K)(n: ∀x y:κ,ek x=ek y->x=y)(p:P.underlying T=some (.map K E)){k:κ}{q:Lit}(r:keyOf P K (ek k)=some q)(y:α)
 (s:a.eval m= .map (some b)) (t:a.eval x=ek k) (u:a.eval v=ev y) (A: ∀w',Qs (bL P K ek ev w' b (cn l k y))->Qs (Ch (·=b) w w')->wpList P ops Q rest (a.put o.dst undef) w'):wpList P ops Q (o::rest) a w:=by
 refine Pr g λB c=>?_
 obtain⟨w',d,e,f,_⟩:=i.put j n p r y;unfold Oper.wp;simp[execOp,h,s,t,u,d,Result.andThen];exact c _ _ (A w' (zh e) (zh f))
def lZ(e:o.guard=none)(m x:Operand)(ok:Bool)(f:o.op=Op.lookup T m x ok)(g:bL P K ek ev w b l)(h:Maps.Keyed P K)(i: ∀x y:κ,ek x=ek y->x=y)(j:P.underlying T=some (.map K E)){z:Qn}(n:(zeroValue E).run P w= .ok z w){k:κ}{q:Lit}(p:keyOf P K (ek k)=some q)
 (r:a.eval m= .map (some b)) (s:a.eval x=ek k) (t:wpList P ops Q rest (a.put o.dst (hC z ev ok (bf l k))) w):wpList P ops Q (o::rest) a w:=by
 refine Pr e λu c=>?_
 have d:=g.look h i j n ok p;unfold Oper.wp;simp[execOp,f,r,s,d,Result.andThen];exact c _ _ t
def jL(g:o.guard=none)(m x:Operand)(h:o.op=Op.call {callee:=Callee.builtin Builtin.delete,args:=#[m,x],argTypes:=#[T,K]})(i:bL P K ek ev w b l)(j:Maps.Keyed P K)(n: ∀x y:κ,ek x=ek y->x=y)(p:P.underlying T=some (.map K E)){k:κ}{q:Lit}(r:keyOf P K (ek k)=some q)
 (s:a.eval m= .map (some b)) (t:a.eval x=ek k) (u: ∀w',Qs (bL P K ek ev w' b (iH l k))->Qs (Ch (·=b) w w')->wpList P ops Q rest (a.put o.dst (.tuple #[])) w'):wpList P ops Q (o::rest) a w:=by
 refine Pr g λv c=>?_
 obtain⟨w',d,e,f,_⟩:=i.del j n p r o.type;unfold Oper.wp;simp[execOp,h,resolve,invoke,builtin,s,t,d,Result.andThen];exact c _ _ (u w' (zh e) (zh f))
omit [DecidableEq κ] in
def xA(P:Program)(K:Qp){κ α:Type}(ek:κ->Qn)(ev:α->Qn)(w:Qm)(r b:Nat)(l left:List (κ×α)):Prop:=
 ∃es clock a c c0,w.heap[r]?=some (.mapIter (some b) a c c0)/\w.heap[b]?=some (.map es clock)/\tX P K ek ev es clock l/\(∀e∈es.toList,e.born<a)/\(a<=c0/\a<=clock)/\(leftOf es c).toList.map (λe=>(e.key,e.val))=left.map (λp=>(ek p.1,ev p.2))
omit [DecidableEq κ]
def xA.map{left:List (κ×α)}{r:Nat}(e:xA P K ek ev w r b l left):bL P K ek ev w b l:=by obtain⟨es,c,_,_,_,_,a,d,_⟩:=e;exact⟨es,c,a,d⟩
def xA.lt{left:List (κ×α)}{r:Nat}(a:xA P K ek ev w r b l left):r<w.heap.size:=by obtain⟨_,_,_,_,_,a,_⟩:=a;exact aa a
def xA.step{left:List (κ×α)}{r:Nat}(g:xA P K ek ev w r b l left)(h:w'.heap[r]?=w.heap[r]?)(i:w'.heap[b]?=w.heap[b]?):xA P K ek ev w' r b l left:=by
 obtain⟨es,c,s,a,c0,d,e,f⟩:=g;exact⟨es,c,s,a,c0,h.trans d,i.trans e,f⟩
def xA.below{left:List (κ×α)}{r:Nat}(a:xA P K ek ev w r b l left)(c:Qr w.heap.size w w'):xA P K ek ev w' r b l left:=a.step (c.block r a.lt) (c.block b a.map.lt)
def eF(g:o.guard=none)(m:Operand)(h:o.op=Op.range T m)(c:bL P K ek ev w b l)(i:P.underlying T=some (.map K E))(j:a.eval m= .map (some b))
 (k: ∀w',Qs (xA P K ek ev w' w.heap.size b l l)->Qs (Qr w.heap.size w w')->wpList P ops Q rest (a.put o.dst (.pointer (some ⟨w.heap.size,0,none⟩))) w'):wpList P ops Q (o::rest) a w:=by
 refine Pr g λn e=>?_
 obtain⟨es,clock,d,c⟩:=c
 have f:(Instr.range T (.map (some b))).run P w= .ok (.pointer (some ⟨w.heap.size,0,none⟩)) (w.alloc (.mapIter (some b) clock #[] clock)):=by
  simp[Instr.range,run_underlying i,MapKept.run_getObj_map d,Result.andThen,newObj,Sem.run]
 unfold Oper.wp;simp[execOp,h,j,f,Result.andThen];refine e _ _ (k _ (zh ⟨es,clock,clock,#[],clock,Nu _ _,ab d ze,c,c.clk,⟨Nt _,Nt _⟩,?_⟩) (zh ze));have:leftOf es #[]=es:=by unfold leftOf;simp
 rw[this,c.kv]
def EO(P:Program)(K:Qp){κ α:Type}(ek:κ->Qn)(ev:α->Qn)(w:Qm)(r b:Nat)(l left:List (κ×α))(p:κ×α):Prop:=
 xA P K ek ev w r b l left/\ ∃(es:Array MapEntry) (clock a:Nat) (c:Array Nat) (e:MapEntry),w.heap[r]?=some (.mapIter (some b) a (c.push e.born) clock)/\w.heap[b]?=some (.map es clock)/\e∈es.toList/\(es.toList.map (·.born)).Nodup/\e.key=ek p.1/\e.val=ev p.2
def qn: ∀{L:List MapEntry} {i:Nat} {e:MapEntry},L.Pairwise (λx y=>x.born<y.born)->L[i]?=some e->L.filter (λx=>x.born !=e.born)=L.eraseIdx i
 | [],i,e,_,a=>by simp at a
 |x::L,0,e,c,a=>by
  simp at a;subst a;rw[List.pairwise_cons] at c;simp only[List.filter_cons,bne_self_eq_false,Bool.false_eq_true,if_false,List.eraseIdx_cons_zero];rw[List.filter_eq_self];intro y f;have:=c.1 y f;simp;omega
 |x::L,i+1,e,c,a=>by
  rw[List.pairwise_cons] at c;have d:L[i]?=some e:=by simpa using a
  have:=c.1 e (NO d);have g:(x.born !=e.born)=true:=by simp;omega
  rw[List.filter_cons,NH g,List.eraseIdx_cons_succ,qn c.2 d]
def du(T:o.guard=none)(F:Operand)(H:o.op=Op.next F false){left:List (κ×α)}{r:Nat}(D:xA P K ek ev w r b l left)(I:a.eval F= .pointer (some ⟨r,0,none⟩))
 (U:left= []->wpList P ops Q rest (a.put o.dst (.tuple #[false])) w)
 (V: ∀i p w',left[i]?=some p->Qs (EO P K ek ev w' r b l (left.eraseIdx i) p)->Qs (Ch (·=r) w w')->wpList P ops Q rest (a.put o.dst (.tuple #[true,ek p.1,ev p.2])) w'):wpList P ops Q (o::rest) a w:=by
 refine Pr T λW A=>?_
 obtain⟨es,clock,f,c,c0,n,h,q,B,s,t⟩:=D;rcases run_next_at (P:=P) w o.type r b f c0 c es clock n h B s.1 with⟨X,j⟩|⟨e,k,m,u,j⟩
 ·have:left= []:=by
   have:=Of List.length t;simp only[OC,PN] at this;exact NI zo
  unfold Oper.wp;simp[execOp,H,I,j,Result.andThen];exact A _ _ (U this)
 ·obtain⟨i,C⟩:=PG k
  have d:=Of (·[i]?) t;simp only[OG,C,PY] at d;cases hp:left[i]? with
  |none=>rw[hp] at d;cases d
  |some p=>
   rw[hp] at d;simp only[PY,OF,Pb] at d;have v:m.heap[r]?=some (.mapIter (some b) f c c0):=by rcases u with rfl|rfl<;>exact n
   have J:m.heap[b]?=some (.map es clock):=by rcases u with rfl|rfl<;>exact h
   have L:b≠r:=λe=>by rw[e,n] at h;cases h
   have M:Ch (·=r) w (setBlock m r (.mapIter (some b) f (c.push e.born) clock)):=by
    have g:=jK (o':= .mapIter (some b) f (c.push e.born) clock) v;rcases u with rfl|rfl
    ·exact g
    ·exact⟨g.os,g.tape,g.output,g.size,g.block⟩
   have N:(leftOf es c).toList.Pairwise (λx y=>x.born<y.born):=by
    unfold leftOf;rw[PO];exact q.born.sublist List.filter_sublist
   have O:e∈es.toList:=by
    unfold leftOf at k;rw[PO] at k;exact(List.mem_filter.1 k).1
   have R:(es.toList.map (·.born)).Nodup:=by
    have:=ip.1 q.born;exact this.imp λD=>zo
   have E:(setBlock m r (.mapIter (some b) f (c.push e.born) clock)).heap[b]?=some (.map es clock):=by
    simp only[setBlock];rw[Pe (λe=>L e.symm)];exact J
   unfold Oper.wp;rw[d.1,d.2] at j;simp[execOp,H,I,j,Result.andThen];refine A _ _ (V i p _ hp (zh ⟨⟨es,clock,f,_,clock,en v,E,q,B,⟨s.2,s.2⟩,?_⟩,es,clock,f,c,e,en v,E,O,R,d.1,d.2⟩) (zh M))
   ·have:(leftOf es (c.push e.born)).toList=(leftOf es c).toList.eraseIdx i:=by
     rw[<-qn N C];unfold leftOf;rw[PO,PO,List.filter_filter]
     congr 1
     funext x
     by_cases S:x.born=e.born<;>simp[S]
    rw[this,map_eraseIdx,t,<-map_eraseIdx]
end
end
def qo:laidOutB zP=true:=zk
def sp:Maps.Keyed zP 183:=Maps.Keyed.of_law (deep_law_laid qo (m:=2) zo zv zk (by rw[underlying183]))
def oA:zP.cellsOf 183=2:=zk
def BX:zP.keyType 183=true:=zk
def nh: ∃m,zP.types.size=m+1:=⟨_,show zP.types.size=(zP.types.size-1)+1 from(Nat.sub_add_cancel zv).symm⟩
def BY:zP.cellsOf 9=1:=zk
def ni:zP.cellsOf 3=1:=zk
def ez(p:Qt×Int):Qn:= .agg #[p.1,(p.2:Int)]
def EP{p:Qt×Int}(g:p.1.size<=1000000)(h: -9223372036854775808<=p.2/\p.2<=9223372036854775807): ∃q,keyOf zP 183 (ez p)=some q:=by
 have a:(ez p).formed zP 183=true:=by simp[ez,Value.formed,underlying183,oA]
 obtain⟨m,c⟩:=nh;have d:(Lit.int .i64 p.2).wf=true:=by simp[Lit.wf,IntKind.bits,IntKind.signed,IntKind.min,IntKind.max];omega
 have e:p.1.size<=maxLen:=by unfold maxLen;omega
 unfold keyOf;simp only[underlying183,BX,a,Bool.and_self,if_true]
 have f:zP.keyLits (zP.types.size+1) 183 (ez p).cells.toList=some [.string p.1.data.toList,.int .i64 p.2]:=by
  rw[c];simp[ez,Value.cells,Program.keyLits,underlying183,underlying9,underlying3,oA,BY,ni,d,e]
 rw[f];exact⟨_,rfl⟩
def qp(x y:Qt×Int)(a:ez x=ez y):x=y:=by
 unfold ez at a;injection a with a
 injection a with a
 simp at a;exact Prod.ext a.1 a.2
def gj(l:List UInt8):Nat:=l.foldl (λx c=>(x^^^c.toNat)*16777619%4294967296) 2166136261
def sq:gj []=2166136261:=by unfold gj;simp only[List.foldl_nil]
def qq(l:List UInt8)(c:UInt8):gj (l++ [c])=(gj l^^^c.toNat)*16777619%4294967296:=by unfold gj;rw[OS,Qj,List.foldl_nil]
def vD(l:List UInt8):gj l<4294967296:=by
 rcases List.eq_nil_or_concat l with rfl|⟨l,c,rfl⟩
 ·rw[sq];omega
 ·rw[List.concat_eq_append,qq];exact Nat.mod_lt _ zd
def Ia(a b:Nat)(c:a<4294967296)(d:b<4294967296):bits .xor .u32 (a:Int) (b:Int)=((a^^^b:Nat):Int):=u32_xor_nat a b c d
def EQ(s:Qt)(w:Qm)(m:s.size<=1000000):Qo zP 282 #[s] w (aK w (.int .u32 (gj s.data.toList:Nat))):=by
 go_enter func282,ntmps282;go_wp2;go_loopw [3,7] (λx i wr=> ∃(k a:Nat),k<=s.size/\i= .int .i64 k/\x= .int .u32 a/\Qs (a=gj (s.data.toList.take k))/\Qr w.heap.size w wr) (λ_ i _=>s.size-(intOf i).toNat)
 case atStart=>exact⟨0,2166136261,Nx _,rfl,rfl,zh (by rw[List.take_zero,sq]),ND _ _⟩
 case round=>
  obtain⟨k,a,j,rfl,rfl,d,e⟩:=hrel;by_cases g:k<s.size
  ·have h:a<4294967296:=by rw[d];exact vD _
   have f:=Ia a s[k].toNat h (by have:=s[k].toNat_lt;omega)
   have c:=zh (show(a^^^s[k].toNat)*16777619%4294967296=gj (s.data.toList.take (k+1)) by
    rw[NE (by simpa using g),qq,<-d];simp only[NY,Array.getElem_toList])
   obtain⟨q,hq⟩:=zx (a^^^s[k].toNat);rw[<-hq] at f c;clear hq;go_wp2;go_roundw
   case rel=>exact⟨k+1,_,zo,by go_num,by rw[show((s[k].toNat:Int)%4294967296)=s[k].toNat by have:=s[k].toNat_lt;omega,f];simp,c,e⟩
   case measure=>simp[intOf];omega
  ·have l:k=s.size:=zo
   have c:=zh (show a=gj s.data.toList by rw[d,NC zu]);go_wp2;go_ret;exact⟨Of (λn:Nat=>Ending.returned (.int .u32 n)) c,e⟩
def cV(s:Qt)(n:Int):Int:=if n<1 then 0 else(gj s.data.toList:Int)%n
def nj(s:Qt)(n:Int)(w:Qm)(f:s.size<=1000000)(g:aQ n):Qo zP 210 #[s,n] w (aK w (.int .i64 (cV s n))):=by
 unfold aQ at g;have c:=zh (vD s.data.toList);obtain⟨H,a⟩:=zy (gj s.data.toList);rw[<-a] at c;go_enter func210,ntmps210;by_cases d:n<1
 ·go_wp2
  go_ret;exact⟨bp (by unfold cV;rw[NH d]),ND _ _⟩
 ·have h:=c.out
  go_wp2_with fail;refine zb (EQ s w f) λi e=>?_
  rw[<-a];go_wp2;go_ret;exact⟨bp (by unfold cV;rw[NB zo,<-a]),e⟩
def bU(s a:Qt):List Qt:=Lib.splitB a 0 (Lib.countB s a) s
def ma(c:Qt): ∀(k:Nat) (s:Qt),∀x∈Lib.splitB c 0 k s,x.size<=s.size
 |0,s,x,a=>by simp[Lib.splitB] at a;subst a;exact Nt _
 |k+1,s,x,a=>by
  unfold Lib.splitB at a;split at a
  ·simp at a;subst a;exact Nt _
  ·rcases NL.1 a with a|a
   ·subst a;simp;omega
   ·have:=ma c k _ x a;simp at this;omega
def lp(s a:Qt)(c:1<=a.size):1<=(bU s a).length/\(bU s a).length<=s.size+1/\ ∀x∈bU s a,x.size<=s.size:=by
 have d:=Lib.splitB_all a c 0 (Lib.countB s a) s rfl;have e:=Lib.countB_le a c s.size s zl;refine⟨?_,?_,ma _ _ _⟩<;>(unfold bU;omega)
def ER(w:Qm)(l:List Qt)(e:Qq)(w':Qm):Prop:= ∃b c,e= .returned (.slice (some ⟨b,0,none⟩) l.length c)/\w.heap.size<=b/\Qs (bq w' (.slice (some ⟨b,0,none⟩) l.length c) l)/\Qs (Qr w.heap.size w w')
def nk(s a:Qt)(m:Int)(w:Qm)(j:s.size<=1000000)(c:1<=a.size)(h:w.cell? ⟨0,0,none⟩=some (.int .i64 m)):Qo zP 48 #[s,a] w (ER w (bU s a)):=by
 refine(strings_Split s a m w zo h c).mono ?_;rintro e w' ⟨rfl,rfl⟩;have d:=Lib.splitB_all a c 0 (Lib.countB s a) s rfl;obtain⟨_,i,f⟩:=lp s a c;have e:Lib.countB s a+1=(bU s a).length:=d.symm;rw[e];exact⟨_,_,rfl,Nt _,cG rfl rfl (λx g=>by have:=f x g;omega) ⟨Nt _,zo⟩,ak _ _⟩
def bq.ch{w w':Qm}{b n c:Nat}{l:List Qt}{F:Nat->Prop}(u:bq w (.slice (some ⟨b,0,none⟩) n c) l)(h:Ch F w w')(v: ¬F b):bq w' (.slice (some ⟨b,0,none⟩) n c) l:=by
 obtain⟨a,c',d,i,k,m⟩:=u;refine⟨a,c',d,i,k,λp=>?_⟩;obtain⟨x,o,f,g,q⟩:=m p;injection d with d
 have e:=d.trans f;injection e with e;injection e with r s;subst r s
 exact⟨_,_,f,No g h.size,λj t=>(World.cell?_of_block (h.block _ g v)).trans (q j t)⟩
def eo(l:List UInt8):Nat:=l.foldl (λn c=>10*n+(c.toNat-48)) 0
def mc(l:List UInt8)(c:UInt8):eo (l++ [c])=10*eo l+(c.toNat-48):=by unfold eo;rw[OS,Qj,List.foldl_nil]
def qr: ∀l:List UInt8,(∀c∈l,48<=c.toNat/\c.toNat<=57)->eo l<10^l.length:=by
 intro l;refine Ei (P:=λl=>(∀c∈l,48<=c.toNat/\c.toNat<=57)->eo l<10^l.length) (λ_=>zd) (λl c d a=>?_) l;have f:=d (λc e=>a c (by simp[e]));have g:=a c zm;rw[mc,Nw,NS,Nat.pow_succ];omega
def eG(s:Qt):Bool:=s.data.toList.all (λc=>decide (48<=c.toNat)&&decide (c.toNat<=57))&&decide (1<=s.size)&&decide (s.size<=18)&&(decide (s.size=1)||decide ((s.data.toList.getD 0 0).toNat≠48))
def iq(s:Qt):Int:=eo s.data.toList
def qs{s:Qt}(a:eG s=true):(∀c∈s.data.toList,48<=c.toNat/\c.toNat<=57)/\(1<=s.size/\s.size<=18)/\(s.size=1\/(s.data.toList.getD 0 0).toNat≠48):=by
 unfold eG at a;simp only[Ot,Ob,On,Pz] at a;exact⟨a.1.1.1,⟨a.1.1.2,a.1.2⟩,a.2⟩
def ic{s:Qt}{k:Nat}(a:k<s.size):eo (s.data.toList.take (k+1))=10*eo (s.data.toList.take k)+(s[k].toNat-48):=by
 rw[NE (by simpa using a),mc];simp[NY]
def Ib{s:Qt}(e:eG s=true):0<=iq s/\iq s<1000000000000000000:=by
 obtain⟨a,⟨_,c⟩,_⟩:=qs e;have f:=qr _ a;have d:s.data.toList.length<=18:=by simpa using c
 have g:10^s.data.toList.length<=10^18:=Nat.pow_le_pow_right zo d;unfold iq;omega
def jd(s:Qt)(w:Qm)(E:eG s=true):Qo zP 96 #[s] w (aK w (.tuple #[(iq s:Int),()])):=by
 obtain⟨t,⟨R,S⟩,m⟩:=qs E;have F:0<s.size:=zo
 have C:=zh (show Lib.hasPrefix s.data.toList [45]=false by
  cases h:s.data.toList with
  |nil=>rfl
  |cons c r=>
   have:=t c (by rw[h];simp);show((45:UInt8)==c&&_)=false;rw[show((45:UInt8)==c)=false by rw[Od];intro e;subst e;exact absurd this.1 zd];rfl)
 have H:=zh (show(⟨(Lib.trimPrefix s.data.toList [45]).toArray⟩:Qt)=s by unfold Lib.trimPrefix;rw[C];simp);have D:=zh (λk (n:k<s.size)=>show 48<=s[k].toNat/\s[k].toNat<=57 from t _ (by rw[NY];exact Array.getElem_mem_toList _))
 have u:=zh (λk (n:k<=s.size)=>show eo (s.data.toList.take k)<10^k/\10^k<=10^18 from⟨by
  have:=qr (s.data.toList.take k) (λc I=>t c (OO I))
  rwa [NP,OY (by simpa using n)] at this,Nat.pow_le_pow_right zo zo⟩)
 have T:((s.size:Int)==0)=false:=by rw[Od];omega
 have J:=zh (show s.size=1\/(s[0].toNat:Int)≠48 by
  rcases m with m|m
  ·exact .inl m
  ·refine .inr λe=>m ?_
   simp[Nr,F,NY] at*;omega)
 clear E t m;go_enter func96,ntmps96;go_wp2_with fail;refine(strings_CutPrefix s ⟨#[45]⟩ w).mono ?_;rintro e v ⟨rfl,rfl⟩;rw[H,C];by_cases y:s.size=1
 all_goals
  have U:(s.size:Int)<=18:=zo;have V:=zi (18<(s.size:Int))
 ·have K:(1<(s.size:Int))=False:=by simp;omega
  have W:=zh y;clear y;go_wp2_with fail
  all_goals
   go_loopw [6,36] (λx i wr=> ∃(k a:Nat),k<=s.size/\i= .int .i64 k/\x= .int .i64 a/\Qs (a=eo (s.data.toList.take k))/\Qr v.heap.size v wr) (λ_ i _=>s.size-(intOf i).toNat)
   case atStart=>exact⟨0,0,Nx _,rfl,rfl,zh (by rw[List.take_zero];rfl),ND _ _⟩
   case round=>
    obtain⟨k,a,n,rfl,rfl,j,o⟩:=hrel;have f:=u k n;rw[<-j] at f;have L:a<1000000000000000000:=by have:=f.1;have:=f.2;omega
    clear f;by_cases g:k<s.size
    ·have f:=u (k+1) g
     rw[ic g,<-j] at f;have p:=D k g;have q:=zh (show 10*a+(s[k].toNat-48)=eo (s.data.toList.take (k+1)) by rw[ic g,<-j]);have A:10*a+(s[k].toNat-48)<1000000000000000000:=zo;obtain⟨d,l⟩:=zx (s[k].toNat);rw[<-l] at p A q;obtain⟨M,N⟩:=p;have O:48<=(d:Int):=zo;have P:(d:Int)<=57:=zo;have Q:=l.symm;clear f l;go_wp2;go_roundw
     case rel=>exact⟨k+1,_,g,by go_num,by go_num,q,o⟩
     case measure=>simp[intOf];omega
    ·have B:=zh (show iq s=(a:Int) by unfold iq;rw[j,NC zu])
     go_wp2;go_ret2;exact⟨by rw[B];rfl,o⟩
 ·have K:((s[0].toNat:Int)==48)=false:=by
   rw[Od];exact J.resolve_left y
  clear y;go_wp2_with fail
  all_goals
   go_loopw [6,36] (λx i wr=> ∃(k a:Nat),k<=s.size/\i= .int .i64 k/\x= .int .i64 a/\Qs (a=eo (s.data.toList.take k))/\Qr v.heap.size v wr) (λ_ i _=>s.size-(intOf i).toNat)
   case atStart=>exact⟨0,0,Nx _,rfl,rfl,zh (by rw[List.take_zero];rfl),ND _ _⟩
   case round=>
    obtain⟨k,a,n,rfl,rfl,j,o⟩:=hrel;have f:=u k n;rw[<-j] at f;have L:a<1000000000000000000:=by have:=f.1;have:=f.2;omega
    clear f;by_cases g:k<s.size
    ·have f:=u (k+1) g
     rw[ic g,<-j] at f;have p:=D k g;have q:=zh (show 10*a+(s[k].toNat-48)=eo (s.data.toList.take (k+1)) by rw[ic g,<-j]);have A:10*a+(s[k].toNat-48)<1000000000000000000:=zo;obtain⟨d,l⟩:=zx (s[k].toNat);rw[<-l] at p A q;obtain⟨M,N⟩:=p;have O:48<=(d:Int):=zo;have P:(d:Int)<=57:=zo;have Q:=l.symm;clear f l;go_wp2;go_roundw
     case rel=>exact⟨k+1,_,g,by go_num,by go_num,q,o⟩
     case measure=>simp[intOf];omega
    ·have B:=zh (show iq s=(a:Int) by unfold iq;rw[j,NC zu])
     go_wp2;go_ret2;exact⟨by rw[B];rfl,o⟩
def ck(A:aF):List UInt8:= []++bd [A.c,A.hi]++bc [A.lo]++bd [A.mn,A.mx]
structure PS(w0:Qm)(A:aF)(p:Nat)(l:List UInt8)(w:Qm):Prop where
 pk:bw w p 0 l
 b:w.heap[w0.heap.size]?=some (.cells #[.int .i64 A.c,.int .i64 A.hi,.int .u64 A.lo,.int .i64 A.mn,.int .i64 A.mx] 63)
 bel:Qr w0.heap.size w0 w
 lt:w0.heap.size<p
def PS.step{w0 w w' c:Qm}{A:aF}{p:Nat}{l f:List UInt8}(a:PS w0 A p l w)(d:Qr w.heap.size w w')(g:bi p w' c)(h:bw c p 0 f):PS w0 A p f c:=by
 have e:=g.below (a.pk.keep d);exact⟨h,iB e a.lt (ab a.b d),(aI a.bel d a.bel.size).trans (e.mono (Oc a.lt)),a.lt⟩
def ES(A:aF)(w:Qm)(s:A.valid=true)(p:Qs A.ok):Qo zP 415 #[A.val] w (aK w (.tuple #[.string (aO (ck A)),()])):=by
 simp only[aF.val];go_enter func415,ntmps415;go_wp2_with fail;refine zb (nc A _) λa q=>?_
 rw[s];have m:a.heap[w.heap.size]?=_:=ab (Nu w (.cells #[(A.c:Int),(A.hi:Int),.int .u64 A.lo,(A.mn:Int),(A.mx:Int)] 63)) q;have n:w.heap.size<a.heap.size:=aa m;have r:Qr w.heap.size w a:=ai (aL zr zl) q;have j:=zh (show PS w A a.heap.size [] (a.alloc (.cells #[(),z0] 215)) from⟨ef a,(Oz a _ _ n).trans m,aI r ze (Oc n),n⟩);clear r s m;obtain⟨c0,c,d,f,g⟩:=bV j.b;go_wp2_with fail;refine(fi _ _ [A.c,A.hi] _ _ (j.pk.keep ze) (bH j.pk zm rfl (by have:=p.out;unfold aF.ok at this;simp;omega) zm) zm).mono ?_;rintro e u ⟨rfl,h,i⟩;have k:=j.step ze i h;clear c0 c d f g;obtain⟨c0,c,d,f,g⟩:=bV k.b;go_wp2_with fail;refine(fN _ _ [A.lo] _ _ (k.pk.keep ze) (dv k.pk zm rfl (by have:=p.out;unfold aF.ok at this;simp;omega)) (by simp[ca])).mono ?_;rintro e v ⟨rfl,h,i⟩;have l:=k.step ze i h;clear c0 c d f g;obtain⟨c0,c,d,f,g⟩:=bV l.b;go_wp2_with fail;refine(fi _ _ [A.mn,A.mx] _ _ (l.pk.keep ze) (bH l.pk zm rfl (by have:=p.out;unfold aF.ok at this;simp;omega) zm) (by simp[ca,aU])).mono ?_;rintro e x ⟨rfl,h,i⟩;have o:=l.step ze i h;clear c0 c d f g;obtain⟨c0,c,d,f,g⟩:=bV o.b;go_wp2_with fail;refine zb (fh _ _ _ o.pk) λy t=>?_
 go_wp2;go_ret2;exact⟨rfl,ai o.bel t⟩
def me(l:List UInt8)(k:Nat):Int:=cX ((l.drop k).take 8)
def cW(l:List UInt8):aF:=⟨fI (me l 0),fI (me l 8),me l 16,fI (me l 24),fI (me l 32)⟩
structure Mk(w0:Qm)(u:Nat)(l:List UInt8)(s:Qt)(k:Nat)(w:Qm):Prop where
 un:fj w u 0 s
 li:s.data.toList=l.drop k
 sz:s.size+k=l.length
 b:w.heap[w0.heap.size]?=some (.cells #[.int .i64 aF.zero.c,.int .i64 aF.zero.hi,.int .u64 aF.zero.lo,.int .i64 aF.zero.mn,.int .i64 aF.zero.mx] 63)
 bel:Qr w0.heap.size w0 w
 lt:w0.heap.size<u
def Mk.step{w0 w w':Qm}{u k:Nat}{l:List UInt8}{s:Qt}(a:Mk w0 u l s k w)(f:cR u w w')(g:fj w' u 0 (s.extract 8 s.size))(h:8<=s.size:=by omega):Mk w0 u l (s.extract 8 s.size) (k+8) w':=by
 have d:=aa (show w.heap[u]?=_ from a.un);have c:=f.below (Oc d)
 have e:(s.extract 8 s.size).data.toList=l.drop (k+8):=by
  rw[bK,<-List.drop_drop,<-a.li];rw[NC (by simp)]
 refine⟨g,e,?_,iB c a.lt a.b,a.bel.trans (c.mono (Oc a.lt)),a.lt⟩;have:=a.sz;simp;omega
def aG(w0:Qm)(u:Nat)(l:List UInt8)(k:Nat)(w:Qm):Prop:= ∃s,Mk w0 u l s k w
def pq{w0 w:Qm}{u k:Nat}{l:List UInt8}(a:aG w0 u l k w)(i:k+8<=l.length)(j:l.length<=1000000):
 Qo zP 317 #[u] w (λc w'=>c= .returned (.int .i64 (fI (me l k)))/\Qs (aG w0 u l (k+8) w')):=by
 obtain⟨s,a⟩:=a;have g:=a.sz;refine(qa u s w a.un zo zo).mono ?_;rintro e h ⟨rfl,d,f⟩;exact⟨by rw[a.li];rfl,_,a.step f d zo⟩
def ET{w0 w:Qm}{u k:Nat}{l:List UInt8}(a:aG w0 u l k w)(i:k+8<=l.length)(j:l.length<=1000000):
 Qo zP 384 #[u] w (λc w'=>c= .returned (.int .u64 (me l k))/\Qs (aG w0 u l (k+8) w')):=by
 obtain⟨s,a⟩:=a;have g:=a.sz;refine(iE u s w a.un zo zo).mono ?_;rintro e h ⟨rfl,d,f⟩;exact⟨by rw[a.li];rfl,_,a.step f d zo⟩
def aG.b{w0 w:Qm}{u k:Nat}{l:List UInt8}(a:aG w0 u l k w):w.heap[w0.heap.size]?=some (.cells #[(aF.zero.c:Int),(aF.zero.hi:Int),.int .u64 aF.zero.lo,(aF.zero.mn:Int),(aF.zero.mx:Int)] 63):=by obtain⟨s,a⟩:=a;exact a.b
def aG.bel{w0 w:Qm}{u k:Nat}{l:List UInt8}(a:aG w0 u l k w):Qr w0.heap.size w0 w:=by obtain⟨s,a⟩:=a;exact a.bel
def lq(l:List UInt8):Qn:= .tuple #[if (cW l).valid=true then(cW l).val else aF.zero.val,(if (cW l).valid=true then 0 else 6:Int)]
def EU(s:Qt)(w:Qm)(k:s.size=40):Qo zP 436 #[s] w (aK w (lq s.data.toList)):=by
 have I:=zh k;have P:((s.size:Int) !=40)=false:=by simp[k]
 have a:=zh (show s.data.toList.length=40 by simpa using k);clear k;go_enter func436,ntmps436;go_wp2_with fail;refine(gV s _ (by have:=I.out;omega)).mono ?_;rintro e t ⟨u,rfl,x,J,y⟩;have A:t.heap[w.heap.size]?=some (.cells #[(aF.zero.c:Int),(aF.zero.hi:Int),.int .u64 aF.zero.lo,(aF.zero.mn:Int),(aF.zero.mx:Int)] 63):=ab (Nu w _) y;have B:=zh (show aG w u s.data.toList 0 t from⟨s,J,zm,zm,A,ai ze y,by simp at x;omega⟩);clear x A;obtain⟨l,m⟩:=zy s.data.toList;rw[<-m] at B a;go_wp2_with fail;refine(pq B (by have:=a.out;omega) (by have:=a.out;omega)).mono ?_;rintro e Q ⟨rfl,K⟩
 skip
 go_wp2_with fail;refine(pq K (by have:=a.out;omega) (by have:=a.out;omega)).mono ?_;rintro e R ⟨rfl,L⟩
 skip
 go_wp2_with fail;refine(ET L (by have:=a.out;omega) (by have:=a.out;omega)).mono ?_;rintro e S ⟨rfl,M⟩
 skip
 go_wp2_with fail;refine(pq M (by have:=a.out;omega) (by have:=a.out;omega)).mono ?_;rintro e T ⟨rfl,N⟩
 skip
 go_wp2_with fail;refine(pq N (by have:=a.out;omega) (by have:=a.out;omega)).mono ?_;rintro e C ⟨rfl,n⟩
 skip
 go_wp2_with fail;refine zb (nc (cW l) _) λw7 p=>?_
 have O:=aa n.b;have c:=ab ((Oz C (.cells #[.int .i64 (cW l).c,.int .i64 (cW l).hi,.int .u64 (cW l).lo,.int .i64 (cW l).mn,.int .i64 (cW l).mx] 63) _ O).trans n.b) p;have D:=ab (Nu C (.cells #[.int .i64 (cW l).c,.int .i64 (cW l).hi,.int .u64 (cW l).lo,.int .i64 (cW l).mn,.int .i64 (cW l).mx] 63)) p;have E:Qs (Qr w.heap.size w w7):=ai (ai n.bel ze) p;have F:=zh c;obtain⟨c0,U,V,W,X⟩:=bV D;obtain⟨Y,Z,a0,a1,a2⟩:=bV c;have a3:=ad (o:=0) c;have a4:=ad (o:=1) c;have a5:=ad (o:=2) c;have a6:=ad (o:=3) c;have a7:=ad (o:=4) c;clear c D;by_cases d:(cW l).valid=true
 ·have q:=zh (show lq s.data.toList= .tuple #[(cW l).val,()] by rw[<-m];unfold lq;rw[NH d,NH d])
  rw[d];clear d;go_wp2;have r:=kp (cW l) F;obtain⟨f,g,h,i,j⟩:=bV r;simp only[cW] at f g h i j;refine NG (v:= .tuple #[(cW l).val,()]) (by simp[results,results436,go_sem,f,g,h,i,j,aF.val,cW]) rfl ⟨by rw[q],eW (cW l) E zl⟩
 ·have q:=zh (show lq s.data.toList= .tuple #[aF.zero.val,(6:Int)] by rw[<-m];unfold lq;rw[NB d,NB d])
  have H:(cW l).valid=false:=by simpa using d
  rw[H];clear d H;go_wp2;have r:=kp aF.zero F;obtain⟨f,g,h,i,j⟩:=bV r;simp only[aF.zero] at f g h i j;refine NG (v:= .tuple #[aF.zero.val,(6:Int)]) (by simp[results,results436,go_sem,f,g,h,i,j,aF.val,aF.zero]) rfl ⟨by rw[q],eW aF.zero E zl⟩
def Ic(v f:Qn)(n:Int)(w:Qm)(a:n<=1):Qo zP 212 #[v,(),n,f] w (aK w (.tuple #[])):=by
 go_enter func212,ntmps212;go_wp2_with fail;refine NM 2 ?_;rw[NF];go_wp2
 go_end0
 exact⟨rfl,ND _ _⟩
def Id(v f:Qn)(n k:Int)(w:Qm)(e:0<=n)(c:n<=1):Qo zP 146 #[v,(),n,k,f] w (aK w (.tuple #[])):=by
 go_enter func146,ntmps146;go_wp2_with fail;refine NM 2 ?_;rw[NF];go_wp2_with fail;refine zb (Ic v f n _ c) λd a=>?_
 go_wp2
 go_end0
 exact⟨rfl,a⟩
def vE(a:Option Addr)(n c:Nat)(f:Qn)(w:Qm)(i:n<=1):Qo zP 92 #[.slice a n c,f] w (aK w (.tuple #[])):=by
 have d:(n:Int)<=1:=zo;go_enter func92,ntmps92;go_wp2_with fail;refine(bits_Len n _ zo zo).mono ?_;rintro e g ⟨rfl,rfl⟩;go_wp2_with fail;refine zb (Id _ f n _ _ zo d) λg h=>?_
 go_wp2
 go_end0
 exact⟨rfl,h⟩
end Go.Proofs.YtdflhgceeloijaaGreatDoor
