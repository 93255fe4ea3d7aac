import Derived.Test.YtdflhgceeloijaaGreatDoorZ1
import Derived.Test.YtdflhgceeloijaaGreatDoorZ6
import Derived.Test.YtdflhgceeloijaaGreatDoorZ8
set_option linter.all false
set_option maxRecDepth 100000
set_option maxHeartbeats 16000000
namespace Go.Proofs.YtdflhgceeloijaaGreatDoor
open Go Go.RowKit Tryz
open Tryz renaming prog→zP
open Go renaming World→Qm,Value→Qn,Calls→Qo,TypeId→Qp,Ending→Qq
open Go.RowKit renaming Below→Qr,Hid→Qs
def hU(s:ByteArray):List Qn:= [.string s]
def kH:(zP.info? 9).map (λi=>(i.zero,i.size,i.bytes))=some (some (.string ByteArray.empty),1,16):=zk
def tw{w:Qm}{v:Qn}{l:List ByteArray}(g:aB 1 hU w v l)(q: ∀s∈l,s.size<=9223372036854775807):bq w v l:=by
 obtain⟨a,c,rfl,d,h⟩:=id g;refine⟨a,c,rfl,q,⟨d.1,d.2.1⟩,λi=>?_⟩;obtain⟨b,o,rfl,k,-⟩:=h i;refine⟨b,o,rfl,k,λj f=>?_⟩;obtain⟨r,o',e,-,m⟩:=g.elem (λ_=>rfl) (Np f);injection e with e;injection e with n p;subst n p
 have:=m 0 _ rfl;rw[Nat.mul_one,NR] at this;rw[this,Nr,Np f];rfl
def Gp(w:Qm)(L:List ByteArray)(e:Qq)(w':Qm):Prop:= ∃u,e= .returned (.tuple #[u,()])/\Qs (w'.ownsRow w.heap.size 9 1 u L.length (L.flatMap hU))/\Qs (Qr w.heap.size w w')
def oS{w:Qm}{B p c:Nat}{d:DV}{v:Qn}{l:List Int}(b1:Qs (bg w B p c d))(U:aE w v l)(b2:l.length<=100)(b3:Qs (∀k∈l,(d.read k).2=0)):Qo zP 376 #[p,v] w (Gp w (l.map λk=>(d.read k).1)):=by
 have b4:=zh U;obtain⟨a,b5,rfl,I,V,J⟩:=U;have W:=zh I;have X:=zh J;obtain⟨q,f⟩:=zy (l.length:Nat);rw[<-f] at b2;clear I V J;rw[<-f];obtain⟨Y,Z,a0,a1,a2⟩:=info_parts kH;go_enter func376,ntmps376;go_wp2_with fail;go_loopw [6,13] (λu i wr=> ∃(k:Nat),k<=q/\i= .int .i64 k/\Qs (wr.ownsRow w.heap.size 9 1 u k (((l.take k).map λk=>(d.read k).1).flatMap hU))/\Qs (Qr w.heap.size w wr)) (λ_ i _=>q-(intOf i).toNat)
 case atStart=>exact⟨0,Nx _,rfl,zh zw,zh zr⟩
 case round=>
  obtain⟨k,b6,rfl,t,m⟩:=hrel;obtain⟨va,vc,rfl⟩:=az t;by_cases r:k<q
  ·obtain⟨b,o,rfl,A,K⟩:=X (by intro a3;have:=f.out;simp[a3] at this;omega)
   have c0:=(m.cell (p:=⟨b,o+k,none⟩) A).trans (K k (by have:=f.out;omega));have L:k<l.length:=by rw[<-f];exact r
   obtain⟨h,C⟩:=zy (l.getD k 0);have D:h∈l:=by rw[C,Nr,Np L];exact NT _
   have M:aQ h:=W h D;rw[<-C] at c0;have N:=zh (And.intro D M);have b7:=No A m.size;clear K D M L;go_wp2_with fail;refine zb (lU h (b1.step m) N.2) λa4 O=>?_
   obtain⟨T,P⟩:=zy ((d.read h).1);rw[<-P,b3 h N.1];have E:=aS t O;have F:=m.trans (O.mono m.size);clear c0 A;go_wp2_with (at_builtin;refine bb (enc:=hU) rfl _ _ 121 rfl w.heap.size 9 Y _ 16 underlying121 Z a0 a1 a2 rfl zd _ _ k _ [T] rfl (aZ E λg a5=>ze.block g (ar E a5).2.1) rfl (bC 1 (c:=1) (l:= [T]) (ag zm) rfl ⟨Nt 1,zd⟩) (λ_=>rfl) ?qc1 (by show(k+1)*16<140737488355328;omega) zd ?qc3 ?_)
   case qc1=>intro x a6 y Q;obtain rfl:=Nz.1 a6;simp only[hU,NL,NJ,Ou] at Q;subst Q;rfl
   case qc3=>have:=F.size;simp;omega
   intro b8 R H n a7
   have a8:=zh (show Qr w.heap.size w R by
    have S:=aI F (ak a4 (.cells #[T] 9)) F.size;exact S.trans ⟨n.os,n.tape,n.output,n.size,λj a9=>n.block j (No a9 S.size) λe=>by have:=(ar E (g:=j) e.symm).1;omega⟩)
   have b0:=zh H;obtain⟨b9,c1,rfl⟩:=az H;clear H n a7;go_wp2_with fail;go_roundw
   case rel=>
    refine⟨k+1,zo,by go_num,?_,a8⟩;have s:=b0.out;refine zh ?_;rw[NE (by rw[<-f];exact r),NU,NK];have e:l[k]'(by rw[<-f];exact r)=h:=by rw[C,Nr,Np];rfl
    rw[e];show R.ownsRow w.heap.size 9 1 _ (k+1) (_++List.flatMap hU [(d.read h).1]);rw[<-P,List.map_take];exact s
   case measure=>simp[intOf];omega
  ·obtain rfl:k=q:=zo
   clear r;go_wp2_with fail;go_ret2;refine⟨_,rfl,?_,m⟩;have s:=t.out;rw[f,OA] at s;rw[OC,f];exact s
def bj.key(e:bj):Int×Int×Int×Int:=(e.id,e.tier,e.shard,e.blk)
def bj.fit(e:bj):Prop:=(0<=e.id/\e.id<=18446744073709551615)/\(0<=e.tier/\e.tier<256)/\(0<=e.shard/\e.shard<256)/\(0<=e.blk/\e.blk<65536)
def tz(e:bj)(r:List UInt8):e.bytes++r=aq e.id 8++(aq e.tier 1++(aq e.shard 1++(aq 1 2++(aq e.blk 2++r)))):=by
 unfold bj.bytes;simp[bc,aV]
def Jd(e:bj):e.bytes.length=14:=by
 have:=Of List.length (tz e []);simpa[am] using this
def Kx{v:Int}(a:v<65536):v<rQ 2:=a
def Lw{v:Int}(a:v<256):v<rQ 1:=a
def ry: ∀l:List bj,(l.flatMap bj.bytes).length=l.length*14
 | []=>rfl
 |e::l=>by rw[NZ,Nw,Jd,ry l,NW,Nat.add_mul];omega
def Je(w:Qm)(u:Nat)(es:List bj)(r:List UInt8)(e:Qq)(w':Qm):Prop:=
 ∃(v:Qn) (a:List bj),e= .returned v/\a.map bj.key=es.map bj.key/\Qs (w'.ownsRow w.heap.size 338 6 v a.length (a.flatMap bj.cells))/\Qs (∀x∈a,aE w' x.bv [x.blk]/\ ∀j,aD x.bv j->w.heap.size<=j)/\Qs (UL w' u r)/\Qs (cR u w w')
def Dq{w:Qm}{u:Nat}{es:List bj}(H:Qs (UL w u (aq (es.length:Int) 2++es.flatMap bj.bytes)))(D:es.length<=90)(Q: ∀x∈es,x.fit):Qo zP 419 #[u] w (Je w u es []):=by
 have g6:=zh Q;obtain⟨g7,g8,g9,h0,h1⟩:=info_parts wB;obtain⟨h2,d,h3,h4,h5⟩:=info_parts gi;clear Q;go_enter func419,ntmps419;go_wp2_with fail;refine(eh H (.inr (.inl rfl)) (by rw[Nw,am,ry];omega) ⟨zo,Kx zo⟩).mono ?_;rintro x l4 ⟨rfl,h6,h7⟩;obtain⟨n,b0⟩:=zy (es.length:Nat);rw[<-b0] at D⊢;go_wp2_with fail;go_loopw [3,4] (λv k wr=> ∃(done rest:List bj),k= .int .i64 rest.length/\rest.length<=n/\(∀x∈rest,x.fit)/\Qs (done.map bj.key++rest.map bj.key=es.map bj.key)/\Qs (wr.ownsRow w.heap.size 338 6 v done.length (done.flatMap bj.cells))/\Qs (∀x∈done,aE wr x.bv [x.blk]/\ ∀j,aD x.bv j->w.heap.size<=j/\v.ownBlock≠some j)/\Qs (UL wr u (rest.flatMap bj.bytes))/\Qs (cR u w wr)) (λ_ k _=>(intOf k).toNat)
 case atStart=>exact⟨[],es,by rw[b0],by rw[b0];exact Nt _,g6,zh rfl,zh zw,zh (λx t=>by cases t),h6,h7⟩
 case round=>
  obtain⟨done,rest,rfl,h8,e6,d4,V,d5,d6,b1⟩:=hrel;have e7:=zh e6;obtain⟨va,vc,rfl⟩:=az V;obtain⟨m,b2⟩:=zy (rest.length:Nat);rw[<-b2] at h8⊢;clear e6;by_cases d7:m=0
  ·have e8:rest= []:=NI (by rw[<-b2];exact d7)
   subst d7;go_wp2;go_ret;have P:=d4.out;rw[e8,List.map_nil,OJ] at P;have W:=d6.out;rw[e8] at W;exact⟨_,done,rfl,P,V,λx t=>⟨(d5 x t).1,λj d=>((d5 x t).2 j d).1⟩,W,b1⟩
  ·have l5:0<m:=zo
   obtain⟨x,rest',t⟩: ∃x rest',rest=x::rest':=by
    cases rest with
    |nil=>exact absurd b2.out (by simpa using d7)
    |cons x r=>exact⟨x,r,rfl⟩
   have e9:=e7 x (by rw[t];exact OR ..);have f0:m=rest'.length+1:=by rw[b2,t];rfl
   have b3:=zh (And.intro t f0)
   have f1:=zh (show UL wr u (aq x.id 8++(aq x.tier 1++(aq x.shard 1++(aq 1 2++(aq x.blk 2++rest'.flatMap bj.bytes))))) by
    have f:=d6.out;rw[t,NZ,tz] at f;exact f)
   have N:=zh e9;have l6:(rest'.flatMap bj.bytes).length<=2000:=by rw[ry];omega
   clear t e9 f0;go_wp2_with fail;refine zb (yk f1) λl7 f2=>?_
   have h9:=UL.below f1 f2;have i0:=zh (cR.of_below (u:=u) f2);go_wp2_with fail;refine(pz h9 (by simp only[Nw,am];omega) N.1).mono ?_;rintro y l8 ⟨rfl,i1,i2⟩;have i3:=i0.trans i2;go_wp2_with fail;refine(eh i1 (.inr (.inr rfl)) (by simp only[Nw,am];omega) ⟨N.2.1.1,Lw N.2.1.2⟩).mono ?_;rintro y l9 ⟨rfl,i4,i5⟩;have i6:=i3.trans i5;go_wp2_with fail;refine(eh i4 (.inr (.inr rfl)) (by simp only[Nw,am];omega) ⟨N.2.2.1.1,Lw N.2.2.1.2⟩).mono ?_;rintro y b4 ⟨rfl,f3,i7⟩;have f4:=i6.trans i7;go_wp2_with fail;obtain⟨q,hq⟩:=zx b4.heap.size;obtain⟨f5,b5⟩:=zx (b4.alloc (.cells #[.int .u64 x.id,(x.tier:Int),(x.shard:Int),(),(),z0] 338):Qm);have d8:Qr b4.heap.size b4 f5:=by rw[b5];exact ak _ _
   have f6:=zh (show f5.heap[q]?=some (.cells #[.int .u64 x.id,(x.tier:Int),(x.shard:Int),(),(),z0] 338) by rw[b5,hq];exact Nu _ _);rw[<-b5,<-hq];have i8:=f3.below d8;have i9:=f4.fresh d8;have E:=zh (show wr.heap.size<=q/\q≠u from by rw[hq];exact⟨f4.size,λe=>by have:=f3.lt;omega⟩);clear b5 d8 hq;refine(eh i8 (.inr (.inl rfl)) (by simp only[Nw,am];omega) ⟨zd,Kx zd⟩).mono ?_;rintro y w7 ⟨rfl,j0,f7⟩;have j1:=i9.trans f7;have b6:=zh ((f7.block q (aa f6) E.2).trans f6);obtain⟨X,Y,Z,a0,a1,C⟩:=wt b6;have D:=aa b6;have Q:=λo=>ad (o:=o) b6
   go_wp2_with fail;obtain⟨b7,a4⟩:=zx (w7.setCell ⟨q,4,none⟩ (.int .i64 1):Qm);have f8:=zh (show b7.heap[q]?=some (.cells #[.int .u64 x.id,(x.tier:Int),(x.shard:Int),(),(1:Int),z0] 338) by rw[a4,al b6];rfl)
   have j2:=zh (show cR u wr b7 by
    have f:=j1;rw[a4];exact⟨f.os,f.tape,f.output,by simpa using f.size,λj d W=>(af _ (show j≠q from λe=>by have s:=E.1;rw[e] at d;omega)).trans (f.block j d W)⟩)
   have j3:=zh (show UL b7 u (aq x.blk 2++rest'.flatMap bj.bytes) by rw[a4];exact(af _ (λe=>E.2 e.symm)).trans j0);rw[<-a4];have m0:=zh (show q<b7.heap.size from aa f8);clear a4 X Y Z a0 a1 C D Q;obtain⟨b8,rfl⟩:=zx wr;go_loopw [6] (λi b9=> ∃(c:Nat) (c1:Qn),c<=1/\i= .int .i64 c/\(c=0->c1= .slice none 0 0)/\Qs (UL b9 u (if c=0 then aq x.blk 2++rest'.flatMap bj.bytes else rest'.flatMap bj.bytes))/\Qs (b9.heap[q]?=some (.cells #[.int .u64 x.id,(x.tier:Int),(x.shard:Int),(),(1:Int),c1] 338))/\Qs (b9.ownsRow (q+1) 3 1 c1 c ((if c=0 then [] else [x.blk]).flatMap dK))/\Qs (cR u b8 b9)) (λi _=>1-(intOf i).toNat)
   case atStart=>exact⟨0,_,zo,rfl,λ_=>rfl,j3,f8,zh zw,j2⟩
   case round=>
    obtain⟨c,c1,j4,rfl,c2,d9,c3,c4,I⟩:=hrel;obtain⟨X,Y,Z,a0,a1,C⟩:=wt c3;have D:=aa c3;have Q:=λo=>ad (o:=o) c3
    by_cases f9:c=0
    ·subst f9
     have c2:=c2 rfl;subst c2;go_wp2_with fail;refine zb (yk d9) λe0 e1=>?_
     have j5:=UL.below d9 e1;have e2:=zh (ab c3 e1);have j6:=I.fresh e1;clear X Y Z a0 a1 C D Q;obtain⟨X,Y,Z,a0,a1,C⟩:=wt e2;have D:=aa e2;go_wp2_with fail;refine aC (S:=(λw'=>w'.cell? ⟨q,5,none⟩=some (.slice none 0 0))) 7 zk ?_ (λh=>?_)
     ·(first|exact C|exact a6|exact ae h ze|exact ae h ze.drew|exact h|exact a7 _ _ h)
     refine zU 0 ?_;refine zU 1 ?_;refine zU 2 ?_;refine zO 3 λg0 a5=>?_
     go_simp;refine(eh (w:=e0.drew) (v:=x.blk) (r:=rest'.flatMap bj.bytes) j5 (.inr (.inl rfl)) (by simp only[Nw,am];omega) ⟨N.2.2.2.1,Kx N.2.2.2.2⟩).mono ?_;rintro y c5 ⟨rfl,j7,O⟩;have a6:=(World.cell?_of_block (a:=⟨q,5,none⟩) (O.block q D E.2)).trans C;refine zE a5 (by first|exact C|exact a6|exact ae h ze|exact ae h ze.drew|exact h|exact a7 _ _ h) λh=>?_
     refine zO 4 λg0 a5=>?_
     go_simp
     skip
     refine zE a5 (by first|exact C|exact a6|exact ae h ze|exact ae h ze.drew|exact h|exact a7 _ _ h) λh=>?_
     refine zO 5 λg0 a5=>?_
     rw[NH (by simp[Region.wanted])];refine bX (enc:=dK) _ _ 44 rfl (q+1) 3 h2 _ 8 underlying44 d h3 h4 h5 rfl zd _ _ 0 [] [x.blk] rfl zw rfl (bC 1 (c:=1) (l:= [x.blk]) (ag rfl) rfl ⟨Nt 1,zd⟩) (λ_=>rfl) (by intro z c6 y A;simp only[dK,NL,NJ,Ou] at A;subst A;rfl) (by show(0+1)*8<140737488355328;decide) zd (Nq (show q+1<=e0.heap.size from D) (Nq O.size ze.size)) (λv' c7 R a2 c8=>?_);have a7:=λ(p:Addr) (x:Qn) (t:World.cell? _ p=some x)=>(World.cell?_of_block (a:=p) (a2.block p.block (Nv _ _ t) (λe=>nomatch e))).trans t
     refine zE a5 (by first|exact C|exact a6|exact ae h ze|exact ae h ze.drew|exact h|exact a7 _ _ h) λh=>?_
     refine zU 6 ?_;refine zF ?_;have g1:=eU a2;have c9:Qr c5.heap.size c5 c7:=(ak c5 (.cells #[(x.blk:Int)] 3)).trans (g1.mono zm);have j8:=j7.below c9;have d0:=zh (ab ((O.block q D E.2).trans e2) c9);have a3:=zh (show cR u b8 c7 from(j6.trans (show cR u e0 c5 from⟨O.os,O.tape,O.output,O.size,O.block⟩)).fresh c9);have j9:=zh R;obtain⟨J,K,rfl⟩:=az R;clear R a2 c8 g1 c9 a6 a7 h X Y Z a0 a1 C D;obtain⟨X,Y,Z,a0,a1,C⟩:=wt d0;have D:=aa d0;have Q:=λo=>ad (o:=o) d0
     go_wp2_with fail;obtain⟨d1,e3⟩:=zx (c7.setCell ⟨q,5,none⟩ (.slice J 1 K):Qm);have T:Ch (·=q) c7 d1:=by rw[e3];exact aP (Ch.refl _ _) (.inl rfl)
     have k0:d1.heap[q]?=some (.cells #[.int .u64 x.id,(x.tier:Int),(x.shard:Int),(),(1:Int),.slice J 1 K] 338):=by rw[e3,al d0];rfl
     have k1:UL d1 u (rest'.flatMap bj.bytes):=T.keep j8 (λe=>E.2 e.symm);have k2:cR u b8 d1:=⟨T.os.trans a3.os,T.tape.trans a3.tape,T.output.trans a3.output,Nq a3.size T.size,λj d W=>(T.block j (No d a3.size) (λe=>by have e:j=q:=e;have:=E.1;omega)).trans (a3.block j d W)⟩;have k3:=fo j9 T (λj d e=>by have e:j=q:=e;omega);rw[<-e3];go_roundw
     case rel=>exact⟨1,.slice J 1 K,Nt 1,rfl,λf=>zo,zh k1,zh k0,zh k3,zh k2⟩
     case measure=>simp[intOf]
    ·obtain rfl:c=1:=zo
     clear j4 c2 f9;obtain⟨J,K,rfl⟩:=az c4
     have g2:=zh (aZ V (w':=wr) λg L=>I.block g (ar V L).2.1 (λe=>by
      obtain⟨-,B,m1,U⟩:=ar V L;have g3:=d6.out;rw[<-e] at g3;have d2:=U.symm.trans g3;injection d2 with d2
      injection d2 with d2 k4
      revert k4
      decide))
     obtain⟨g4,e4⟩:=zy (⟨x.id,x.tier,x.shard,x.blk,.slice J 1 K⟩:bj);have m2:done.length<=90:=by have f:=Of List.length d4;simp only[Nw,OC] at f;have:=b0.out;omega
     go_wp2_with (at_builtin;refine bb (enc:=bj.cells) rfl _ _ 380 rfl w.heap.size 338 g7 _ 64 underlying380 g8 g9 h0 h1 rfl zd _ _ done.length _ [bj.mk x.id x.tier x.shard x.blk (.slice J 1 K)] rfl (aZ g2 λg L=>ze.block g (ar g2 L).2.1) rfl (bC 6 (c:=1) (l:= [bj.mk x.id x.tier x.shard x.blk (.slice J 1 K)]) (ag zm) rfl ⟨Nt 1,zd⟩) (λ_=>rfl) ?qc1 (by show(done.length+1)*64<140737488355328;omega) zd ?qc3 ?_)
     case qc1=>intro z c6 y A;obtain rfl:=Nz.1 c6;simp only[bj.cells,NL,NJ,Ou] at A;rcases A with rfl|rfl|rfl|rfl|rfl|rfl<;>rfl
     case qc3=>have s:=I.size;have B:=b1.size;simp;omega
     intro g5 d3 R a2 c8
     have M:Ch (λk=>(Value.slice va done.length vc).ownBlock=some k) wr d3:=by
      have s:Ch (λk=>(Value.slice va done.length vc).ownBlock=some k) wr (wr.alloc (.cells #[.int .u64 x.id,(x.tier:Int),(x.shard:Int),(),(1:Int),.slice J 1 K] 338)):=Ch.fresh ze;exact fQ s a2 (λk P=> .inl P)
     have a8: ∀g,(Value.slice va done.length vc).ownBlock=some g->w.heap.size<=g/\g<b8.heap.size/\g≠u:=λg L=>by
      obtain⟨s,B,-⟩:=ar V L;exact⟨s,B,λe=>by have:=H.lt;omega⟩
     have k5:u<w.heap.size:=H.lt;have k6:=I.size;have k7:=b1.size;have a9: ∀j,aD (.slice J 1 K) j->q+1<=j/\j<wr.heap.size:=λj d=>⟨(ar c4 (cJ d)).1,(ar c4 (cJ d)).2.1⟩
     have e5: ∀j,(∀g,(Value.slice va done.length vc).ownBlock=some g->g≠j)->j<wr.heap.size->g5.ownBlock≠some j:=λj s B e=>by
      rcases c8 with f|f
      ·rw[f] at e;exact s j e rfl
      ·have U:=f j e
       simp at U;omega
     have k8:=zh (show∀y∈done++ [g4],aE d3 y.bv [y.blk]/\ ∀j,aD y.bv j->w.heap.size<=j/\g5.ownBlock≠some j from λy A=>by
      rcases Og.1 A with A|A
      ·obtain⟨s,B⟩:=d5 y A
       have U:aE wr y.bv [y.blk]:=s.ch_ (F:=(·=u)) ⟨I.os,I.tape,I.output,I.size,I.block⟩ (λj d e=>by have e:j=u:=e;have:=(B j d).1;omega);refine⟨U.ch_ M λj d e=>(B j d).2 e,λj d=>⟨(B j d).1,e5 j (λg L e=>(B j d).2 (by rw[<-e];exact L)) (by have:=iV s d;omega)⟩⟩
      ·obtain rfl:=Nz.1 A
       rw[e4];have U:aE wr (.slice J 1 K) [x.blk]:=ei c4 (λz c6=>by obtain rfl:=Nz.1 c6;have:=N.2.2.2;omega);refine⟨U.ch_ M λj d e=>by have s:=(a8 j e).2.1;have B:=(a9 j d).1;have:=E.1;omega,λj d=>⟨by have B:=(a9 j d).1;have:=E.1;omega,e5 j (λg L e=>by have s:=(a8 g L).2.1;have B:=(a9 j d).1;have:=E.1;omega) (a9 j d).2⟩⟩)
     have k9:=zh (show UL d3 u (rest'.flatMap bj.bytes) from M.keep d9 λe=>(a8 u e).2.2 rfl)
     have l0:=zh (show cR u w d3 from by
      have s:=b1.trans I;exact⟨M.os.trans s.os,M.tape.trans s.tape,M.output.trans s.output,Nq s.size M.size,λk P l1=>(M.block k (No P s.size) λe=>by have:=(a8 k e).1;omega).trans (s.block k P l1)⟩)
     have l2:=zh R;obtain⟨m3,m4,rfl⟩:=az R;clear M a8 k5 k6 k7 a9 e5 R a2 c8;go_wp2_with fail;have l3:(m:Int)-1=(rest'.length:Int):=by have:=b3.2;omega
     go_roundw
     case rel=>
      refine⟨done++ [g4],rest',by rw[l3],by have:=b3.2;omega,λy A=>e7 y (by rw[b3.1];exact Oj _ A),?_,?_,k8,k9,l0⟩
      ·have f:=d4.out
       rw[b3.1,Oq] at f;refine zh ?_;rw[NU,NX,<-f,e4];rfl
      ·have f:=l2.out
       refine zh ?_;rw[Nw,NK,e4];simpa using f
     case measure=>simp[intOf];omega
structure uX(w wk:Qm)(u p q:Nat)(cs:Array Qn)(l:List UInt8):Prop where
 bel:Qr w.heap.size w wk
 ul:UL wk u l
 res:wk.heap[p]?=some (.cells #[.int .u64 0,.int .u64 0,.int .i64 0,.string ⟨#[]⟩,.slice none 0 0,.slice none 0 0,.string ⟨#[]⟩,.slice none 0 0,.slice none 0 0,.int .i64 0,.int .i64 0,.slice none 0 0] 382)
 cat:wk.heap[q]?=some (.cells cs 382)
 ge:w.heap.size<=u/\w.heap.size<=p/\w.heap.size<=q
 ne:u≠p/\u≠q/\p≠q
def wQ{B u:Nat}{w a b:Qm}(c:Qr B w a)(k:cR u a b)(e:B<=u)(f:B<=a.heap.size):Qr B w b:=c.trans ⟨k.os,k.tape,k.output,k.size,λj d=>k.block j zo zo⟩
def fa{F:Nat->Prop}{w w':Qm}{v:Qn}{l:List ah}(s:aH w v l)(i:Ch F w w')(t: ∀j,aD v j-> ¬F j):aH w' v l:=by
 obtain⟨a,c,rfl,m,n,o⟩:=s;refine⟨a,c,rfl,m,n,λf=>?_⟩;obtain⟨g,z,rfl,h,p⟩:=o f;have q: ¬F g:=t g ⟨λe=>f (NI e),rfl⟩;refine⟨g,z,rfl,No h i.size,λj r=>?_⟩;have d: ∀k,w'.cell? ⟨g,k,none⟩=w.cell? ⟨g,k,none⟩:=λk=>bT i h q
 rw[d,d,d,d];exact p j r
section
variable{w wk w':Qm}{u p q:Nat}{cs:Array Qn}{l l':List UInt8}
def uX.only(a:uX w wk u p q cs l)(d:UL w' u l')(c:cR u wk w'):uX w w' u p q cs l':=
 ⟨wQ a.bel c a.ge.1 a.bel.size,d,(c.block p (aa a.res) a.ne.1.symm).trans a.res,(c.block q (aa a.cat) a.ne.2.1.symm).trans a.cat,a.ge,a.ne⟩
def uX.below(a:uX w wk u p q cs l)(c:Qr wk.heap.size wk w'):uX w w' u p q cs l:=
 ⟨a.bel.trans (c.mono a.bel.size),a.ul.below c,ab a.res c,ab a.cat c,a.ge,a.ne⟩
def uX.ch{F:Nat->Prop}(a:uX w wk u p q cs l)(c:Ch F wk w')(d: ∀j,F j->w.heap.size<=j/\j≠u/\j≠p/\j≠q):uX w w' u p q cs l:=
 ⟨a.bel.trans (c.below (λj f=>(d j f).1) a.bel.size),c.keep a.ul λe=>(d u e).2.1 rfl,c.keep a.res λe=>(d p e).2.2.1 rfl,c.keep a.cat λe=>(d q e).2.2.2 rfl,a.ge,a.ne⟩
def uX.set(a:uX w wk u p q cs l)(i:Nat)(v:Qn):uX w (wk.setCell ⟨q,i,none⟩ v) u p q (cs.setIfInBounds i v) l:=
 ⟨ao a.bel a.ge.2.2,(af _ a.ne.2.1).trans a.ul,(af _ a.ne.2.2).trans a.res,al a.cat _,a.ge,a.ne⟩
end
def Ky(B:Nat)(w:Qm)(v:Qn)(c:bI):Prop:= ∃pv a d sv ev,v= .agg #[.int .u64 c.gen,.int .u64 c.id,(c.now:Int),c.pn,pv,a,c.tn,d,sv,(c.bound:Int),(c.done:Int),ev]/\re w c pv a d sv ev/\ ∀j,aD pv j\/aD a j\/aD d j\/aD sv j\/aD ev j->B<=j
def Bf(w:Qm)(c:bI)(e:Qq)(w':Qm):Prop:= ∃v es,e= .returned (.tuple #[v,()])/\es.map bj.key=c.es.map bj.key/\Ky w.heap.size w' v {c with es:=es}/\Qs (∀x∈es,∀j,aD x.bv j->w.heap.size<=j)/\Qs (Qr w.heap.size w w')
def tA(c:bI):List UInt8:=aq (c.es.length:Int) 2++c.es.flatMap bj.bytes
def Bg(c:bI):List UInt8:=aq (bM 0) 8++(aq (bM 0) 8++tA c)
def la(c:bI):List UInt8:=aq (((⟨#[]⟩:ByteArray).size:Int)) 2++((⟨#[]⟩:ByteArray).data.toList++Bg c)
def tB{c:bI}(hq:c.quiet):c.bytes=aq c.gen 8++(aq c.id 8++(aq (bM c.now) 8++(aq (dE c.pn c.pl).size 2++((dE c.pn c.pl).data.toList++(bd c.fl++la c))))):=by
 obtain⟨g,a,d,e,f⟩:=hq;unfold bI.bytes bI.head bI.toT la Bg tA;rw[NH a,d,e,f];simp[bc,bd,aV]
def Dr{l:List Int}{k:Nat}(a:k<l.length):bd (l.drop k)=aq (bM (l.getD k 0)) 8++bd (l.drop (k+1)):=by
 rw[Oo a,Nr,Np a];unfold bd bc;rw[Oq,NZ];rfl
def Ds{l:List Int}{k:Nat}(a:k<l.length):(l.take (k+1)).flatMap dK=(l.take k).flatMap dK++ [l.getD k 0].flatMap dK:=by
 rw[NE a,NK,Nr,Np a];rfl
def rz{a:Type}(f:bj->a)(g:Int×Int×Int×Int->a)(d: ∀e:bj,f e=g e.key){es c:List bj}(h:c.map bj.key=es.map bj.key):c.map f=es.map f:=by
 have e: ∀l:List bj,l.map f=(l.map bj.key).map g:=λl=>by rw[Py];exact List.map_congr_left λx _=>d x
 rw[e,e,h]
def wT{c:bI}{es:List bj}(f:es.map bj.key=c.es.map bj.key)(a:c.valid):({c with es:=es}:bI).valid/\({c with es:=es}:bI).bytes=c.bytes:=by
 have n:es.length=c.es.length:=by have:=Of List.length f;simpa using this
 refine⟨⟨⟨a.plain.gen,a.plain.now,a.plain.pol,a.plain.fl⟩,a.chg.imp id λg=>⟨g.pol,g.src,g.bound,g.done⟩,⟨by show es.length<=90;rw[n];exact a.ents.len,λe o=>?_,?_,?_⟩⟩,?_⟩
 ·have p:e.key∈c.es.map bj.key:=by rw[<-f];exact Pc o
  obtain⟨d,q,h⟩:=OI.1 p;have:=a.ents.ok d q;have j:d.id=e.id:=Of (·.1) h;have m:d.tier=e.tier:=Of (·.2.1) h;have i:d.shard=e.shard:=Of (·.2.2.1) h;have r:d.blk=e.blk:=Of (·.2.2.2) h;unfold bj.ok at this⊢;rw[j,m,i,r] at this;exact this
 ·show(es.map λe=>(e.tier,e.shard)).Nodup
  rw[rz (λe=>(e.tier,e.shard)) (λk=>(k.2.1,k.2.2.1)) (λ_=>rfl) f];exact a.ents.ps
 ·show(es.map λe=>e.blk).Nodup
  rw[rz (λe=>e.blk) (λk=>k.2.2.2) (λ_=>rfl) f];exact a.ents.bs
 ·have j:({c with es:=es}:bI).head=c.head:=by
   unfold bI.head bI.toT;dsimp only;rw[n]
  have m:es.flatMap bj.bytes=c.es.flatMap bj.bytes:=by
   have i: ∀l:List bj,l.flatMap bj.bytes=(l.map bj.bytes).flatten:=λl=>List.flatMap_def ..
   rw[i,i,rz bj.bytes (λk=>bc [k.1]++aV 1 [k.2.1,k.2.2.1]++aV 2 [1]++aV 2 [k.2.2.2]) (λ_=>rfl) f]
  show _++_=c.head++_;rw[j];exact Of _ m
def Gq{B:Nat}{w:Qm}{c:bI}{m:Int}(i5:Qs (cl B w))(r8:Qs (w.cell? ⟨0,0,none⟩=some (.int .i64 m)))(r9:Qs (0<w.heap.size))(hq:c.quiet)(T:Qs c.valid)(n3:c.short)(n4:0<=c.id/\c.id<=1000000)(n5:fR (dE c.pn c.pl) c.pn c.pl)(n6:c.bytes.length<=2560)(s0:Qs (∀x∈c.es,x.fit)):
 Qo zP 369 #[.string (aO c.bytes)] w (Bf w c):=by
 have b1:=zh hq;have W:=zh (And.intro n3 (And.intro n4 n5));obtain⟨n7,c4⟩:=zy (aO c.bytes);have i6:=zh n6;rw[<-c4];obtain⟨n8,d,n9,o0,o1⟩:=info_parts gi;have g2:=(aN T.plain.pol).1;have i7:=T.plain.fl.1;have a3:=zh (And.intro g2 i7);clear hq n3 n4 n5 n6 g2 i7;go_enter func369,ntmps369;go_wp2_with fail;obtain⟨p,c5⟩:=zy w.heap.size;obtain⟨g3,c6⟩:=zx (w.alloc (.cells #[.int .u64 0,.int .u64 0,.int .i64 0,.string ⟨#[]⟩,.slice none 0 0,.slice none 0 0,.string ⟨#[]⟩,.slice none 0 0,.slice none 0 0,.int .i64 0,.int .i64 0,.slice none 0 0] 382):Qm);have i8:=zh (show Qr w.heap.size w g3 by rw[c6];exact ak _ _);have i9:=zh (show g3.heap[p]?=some (.cells #[.int .u64 0,.int .u64 0,.int .i64 0,.string ⟨#[]⟩,.slice none 0 0,.slice none 0 0,.string ⟨#[]⟩,.slice none 0 0,.slice none 0 0,.int .i64 0,.int .i64 0,.slice none 0 0] 382) by rw[c6,c5];exact Nu _ _);rw[<-c6,<-c5];clear c6;refine(gV n7 g3 (by rw[c4];have:(aO c.bytes).size=c.bytes.length:=rfl;rw[this];have:=i6.out;omega)).mono ?_;rintro x o2 ⟨u,rfl,j0,j1,j2⟩;have g4:=zh (show UL o2 u c.bytes by rw[c4] at j1;exact j1);rw[tB b1] at g4;have c7:=i8.trans (j2.mono i8.size);have j3:=zh (ab i9 j2);have o3:=zh (show p<u from No (aa i9) j0);have g5:=i6.out;rw[tB b1] at g5;have X:=zh g5;clear j0 g5;go_wp2_with fail;refine(pz g4 (by have s:=X.out;simp only[Nw,am] at s⊢;omega) (by have:=T.plain.gen;omega)).mono ?_;rintro x s1 ⟨rfl,o4,o5⟩;go_wp2_with fail;refine(pz o4 (by have s:=X.out;simp only[Nw,am] at s⊢;omega) (by have:=W.2.1;omega)).mono ?_;rintro x s2 ⟨rfl,o6,o7⟩;have c8:=zh (And.intro o6 (o5.trans o7));go_wp2_with fail;refine(qH c8.1 (by have s:=X.out;simp only[Nw,am] at s⊢;omega) (by have:=T.plain.now;unfold aQ;omega)).mono ?_;rintro x c9 ⟨rfl,o8,o9⟩;have d0:=zh (And.intro o8 (c8.2.trans o9));go_wp2_with fail;obtain⟨q,hq⟩:=zx c9.heap.size;obtain⟨g6,d1⟩:=zx (c9.alloc (.cells #[.int .u64 c.gen,.int .u64 c.id,.int .i64 c.now,.string ⟨#[]⟩,.slice none 0 0,.slice none 0 0,.string ⟨#[]⟩,.slice none 0 0,.slice none 0 0,.int .i64 0,.int .i64 0,.slice none 0 0] 382):Qm);have d2:Qr c9.heap.size c9 g6:=by rw[d1];exact ak _ _
 have j4:g6.heap[q]?=some (.cells #[.int .u64 c.gen,.int .u64 c.id,.int .i64 c.now,.string ⟨#[]⟩,.slice none 0 0,.slice none 0 0,.string ⟨#[]⟩,.slice none 0 0,.slice none 0 0,.int .i64 0,.int .i64 0,.slice none 0 0] 382):=by rw[d1,hq];exact Nu _ _
 rw[<-d1,<-hq]
 have j5:=zh (show uX w g6 u p q #[.int .u64 c.gen,.int .u64 c.id,.int .i64 c.now,.string ⟨#[]⟩,.slice none 0 0,.slice none 0 0,.string ⟨#[]⟩,.slice none 0 0,.slice none 0 0,.int .i64 0,.int .i64 0,.slice none 0 0] (aq (dE c.pn c.pl).size 2++((dE c.pn c.pl).data.toList++(bd c.fl++la c))) by
  have A:=c5.out;have M:=o3.out;have g7:=g4.lt;have j6:=d0.2.size;refine⟨(wQ c7 d0.2 zo c7.size).trans (d2.mono (by have:=c7.size;omega)),d0.1.below d2,ab ((d0.2.block p (aa j3) zo).trans j3) d2,j4,⟨zo,zo,by have:=c7.size;omega⟩,⟨zo,zo,zo⟩⟩)
 clear d1 d2 j4 hq;refine(AO j5.ul (by have:=W.1.pt;omega) (by have s:=X.out;simp only[Nw,am] at s⊢;omega)).mono ?_;rintro x p0 ⟨rfl,p1,p2⟩;have H:=j5.only p1 p2;go_wp2_with fail;have j7:=r9.out;refine(nz (dE c.pn c.pl) c.pn c.pl m p0 W.2.2 T.plain.pol (by have:=W.1.pt;omega) ((H.bel.cell (p:=⟨0,0,none⟩) j7).trans r8)).mono ?_;rintro x w7 ⟨s3,rfl,j8,p3,p4⟩;have a4:=H.below p4;have d3:=zh (And.intro j8 p3);obtain⟨h,n,rfl,-,-,-⟩:=id j8;obtain⟨I,p5⟩:=zy (c.pl.length:Nat);rw[<-p5] at d3 a3⊢;clear j7;obtain⟨-,-,-,d4,d5,J,-,-,-,-,-,-⟩:=bQ a4.cat;have C:=aa a4.cat;have a5:=λo=>ad (o:=o) a4.cat
 go_upto_region 5 with(fail)
 obtain⟨N,b2⟩:=zx (((w7.setCell ⟨q,3,none⟩ (.string c.pn)).setCell ⟨q,4,none⟩ (.slice h I n)).alloc (.cells #[.string c.pn,.slice h I n] 32):Qm);obtain⟨d6,b3⟩:=zx w7.heap.size;have g8:N.heap[d6]?=some (.cells #[.string c.pn,.slice h I n] 32):=by rw[b2,b3];exact ag zm
 have Y:=zh (show uX w N u p q #[.int .u64 c.gen,.int .u64 c.id,.int .i64 c.now,.string c.pn,.slice h I n,.slice none 0 0,.string ⟨#[]⟩,.slice none 0 0,.slice none 0 0,.int .i64 0,.int .i64 0,.slice none 0 0] (bd c.fl++la c) by rw[b2];exact((a4.set 3 (.string c.pn)).set 4 (.slice h I n)).below ze)
 have j9:aH N (.slice h I n) c.pl:=by
  have A:Ch (·=q) w7 ((w7.setCell ⟨q,3,none⟩ (.string c.pn)).setCell ⟨q,4,none⟩ (.slice h I n)):=aP (aP (Ch.refl _ _) (.inl rfl)) (.inl rfl);rw[b2];refine(fa d3.1 A λj d e=>?_).below ze;have e:j=q:=e;have:=fC d3.2 d;have:=aa H.cat;omega
 rw[<-b2,<-b3];have k0:=zh (And.intro g8 (show d6≠q/\d6≠u from⟨by rw[b3];have:=aa a4.cat;omega,by rw[b3];have:=a4.ul.lt;omega⟩));have Z:=zh (And.intro j9 (show∀j,aD (.slice h I n) j->w.heap.size<=j/\j≠u/\j≠q/\j≠p from λj d=>by have A:=fC d3.2 d;have M:=aa H.cat;have g7:=H.ul.lt;have j6:=H.bel.size;have s4:=aa H.res;exact⟨zo,zo,zo,zo⟩));have a0:=zh (show∀j,N.heap.size<=j->j≠u/\j≠q/\j≠d6/\j≠p from λj d=>by have A:=Y.ul.lt;have M:=aa Y.cat;have g7:=aa g8;have j6:=aa Y.res;exact⟨zo,zo,zo,zo⟩);clear b2 b3 g8 j9 d4 d5 J C a5;obtain⟨p6,p7⟩:=bE k0.1;have p8:=aa k0.1;have g2:=a3.1;go_wp2_with fail;clear p6 p7 p8;go_loopw [34] (λi wk=> ∃(k:Nat) (d7:Qn),k<=I/\i= .int .i64 k/\(k=0->d7= .slice none 0 0)/\Qs (uX w wk u p q #[.int .u64 c.gen,.int .u64 c.id,.int .i64 c.now,.string c.pn,.slice h I n,d7,.string ⟨#[]⟩,.slice none 0 0,.slice none 0 0,.int .i64 0,.int .i64 0,.slice none 0 0] (bd (c.fl.drop k)++la c))/\Qs (wk.ownsRow N.heap.size 3 1 d7 k ((c.fl.take k).flatMap dK))/\Qs (Ch (λj=>j=u\/j=q) N wk)) (λi _=>I-(intOf i).toNat)
 case atStart=>exact⟨0,_,Nx _,rfl,λ_=>rfl,Y,zh zw,(Ch.refl _ _)⟩
 case round=>
  obtain⟨k,d7,s5,rfl,p9,U,L,g9⟩:=hrel;obtain⟨D,E,rfl⟩:=az L;obtain⟨-,-,-,-,-,J,-,-,-,-,-,-⟩:=bQ U.cat;have C:=aa U.cat;by_cases k1:k<I
  ·have d8:k<c.fl.length:=by rw[a3.2];exact k1
   have h0:=T.plain.fl.2 (c.fl.getD k 0) (by rw[Nr,Np d8];exact NT _);obtain⟨d9,e0⟩:=zx (c.fl.getD k 0);have h1:=U.ul;rw[Dr d8,<-e0,NX] at h1;rw[<-e0] at h0;have c8:=zh h1;have h2:=zh (And.intro e0 (And.intro d8 h0))
   have s6:(bd (c.fl.drop (k+1))++la c).length<=5000:=by
    have s:=X.out;simp only[Nw,am,ca,OB] at s⊢;omega
   clear e0 h1 d8 h0;go_wp2_with fail;refine aC (S:=(λw'=>w'.cell? ⟨q,5,none⟩=some (.slice D k E))) 7 zk ?_ (λf=>?_)
   ·(first|exact J|exact b5|exact ae f ze|exact ae f ze.drew|exact f|exact H _ _ f b6)
   refine zU 0 ?_;refine zU 1 ?_;refine zU 2 ?_;refine zO 3 λk2 b4=>?_
   go_simp;refine(qH (w:=wr.drew) (v:=d9) (r:=bd (c.fl.drop (k+1))++la c) c8 (by rw[Nw,am];omega) (by have:=h2.2.2;unfold aQ;omega)).mono ?_;rintro y a1 ⟨rfl,q0,K⟩;have b5:=(World.cell?_of_block (a:=⟨q,5,none⟩) (K.block q C U.ne.2.1.symm)).trans J;have k3:=zh (aZ L (w':=a1) λg e1=>K.block g (ar L e1).2.1 (a0 g (ar L e1).1).1);have b6:(Value.slice D k E).ownBlock≠some q:=λe=>(a0 q (ar L e).1).2.1 rfl
   refine zE b4 (by first|exact J|exact b5|exact ae f ze|exact ae f ze.drew|exact f|exact H _ _ f b6) λf=>?_
   refine zO 4 λk2 b4=>?_
   go_simp
   skip
   refine zE b4 (by first|exact J|exact b5|exact ae f ze|exact ae f ze.drew|exact f|exact H _ _ f b6) λf=>?_
   refine zO 5 λk2 b4=>?_
   rw[NH (by simp[Region.wanted])];refine bX (enc:=dK) _ _ 44 rfl N.heap.size 3 n8 _ 8 underlying44 d n9 o0 o1 rfl zd _ _ k _ [d9] rfl (aZ k3 λg e1=>ze.block g (ar k3 e1).2.1) rfl (bC 1 (c:=1) (l:= [d9]) (ag rfl) rfl ⟨Nt 1,zd⟩) (λ_=>rfl) (by intro z h3 y b7;obtain rfl:=Nz.1 h3;simp only[dK,NL,NJ,Ou] at b7;subst b7;rfl) (by show(k+1)*8<140737488355328;omega) zd (Nq g9.size (Nq K.size ze.size)) (λv' h4 h5 e2 q1=>?_);have H:=λ(p:Addr) (x:Qn) (e3:World.cell? _ p=some x) (O:(Value.slice D k E).ownBlock≠some p.block)=>(World.cell?_of_block (a:=p) (e2.block p.block (Nv _ _ e3) (λe=>O e.symm))).trans e3
   refine zE b4 (by first|exact J|exact b5|exact ae f ze|exact ae f ze.drew|exact f|exact H _ _ f b6) λf=>?_
   refine zU 6 ?_;refine zF ?_;have h6:Qr a1.heap.size a1 (a1.alloc (.cells #[.int .i64 d9] 3)):=ak _ _;have k4:Ch (λj=>(Value.slice D k E).ownBlock=some j) a1 h4:=fQ (Ch.fresh h6) e2 (λj d=> .inl d)
   have k5:=(U.only (w':=a1) q0 ⟨K.os,K.tape,K.output,K.size,K.block⟩).ch k4 λj d=>by
    have A:=(ar L d).1;have M:=a0 j A;have g7:=aa Y.res;exact⟨by have:=Y.bel.size;omega,M.1,zo,M.2.1⟩
   have q2:=zh (show Ch (λj=>j=u\/j=q) N h4 by
    have A:Ch (λj=>j=u\/j=q) N a1:=g9.trans ⟨K.os,K.tape,K.output,K.size,λj d O=>K.block j d λe=>O (.inl e)⟩;exact fQ (A.trans (Ch.fresh h6)) e2 (λj d=> .inr (ar L d).1))
   have e4:=zh k5;have q3:=zh h5;obtain⟨h7,h8,rfl⟩:=az h5;clear h5 e2 q1 h6 k4 k5 b5 H b6 f J C;obtain⟨-,-,-,-,-,J,-,-,-,-,-,-⟩:=bQ e4.cat;have C:=aa e4.cat;have a5:=λo=>ad (o:=o) e4.cat
   go_wp2_with fail;go_roundw
   case rel=>
    refine⟨k+1,.slice h7 (k+1) h8,k1,by go_num,λs=>zo,(e4.set 5 (.slice h7 (k+1) h8)),?_,(aP q2 (.inl (.inr rfl)))⟩;have q4:=fo q3 (w':=h4.setCell ⟨q,5,none⟩ (.slice h7 (k+1) h8)) (F:=(·=q)) (aP (Ch.refl _ _) (.inl rfl)) (λj d e=>(a0 j d).2.1 e);refine zh ?_;rw[Ds h2.2.1,<-h2.1];exact q4
   case measure=>simp[intOf];omega
  ·obtain rfl:k=I:=zo
   have k6:c.fl.drop k= []:=OQ (by rw[a3.2];exact Nt _);have k7:c.fl.take k=c.fl:=NC (by rw[a3.2];exact Nt _);rw[k6] at U;rw[k7] at L;have k8:=zh (show uX w wr u p q #[.int .u64 c.gen,.int .u64 c.id,.int .i64 c.now,.string c.pn,.slice h k n,.slice D k E,.string ⟨#[]⟩,.slice none 0 0,.slice none 0 0,.int .i64 0,.int .i64 0,.slice none 0 0] (la c) from U);have q5:=fa Z.1 g9 λj d e=>e.elim (Z.2 j d).2.1 (Z.2 j d).2.2.1
   have b8:=zh (show aE wr (.slice D k E) c.fl/\ ∀j,aD (.slice D k E) j->N.heap.size<=j from⟨ei (by rw[a3.2];exact L) (λz h3=>by have:=T.plain.fl.2 z h3;omega),λj d=>(ar L (cJ d)).1⟩);clear U L k6 k7 p9;obtain⟨b9,rfl⟩:=zx wr;go_wp2_with fail;refine(AO (t:=⟨#[]⟩) (r:=Bg c) k8.ul zd (by have s:=X.out;simp only[Nw,am] at s;have M:((la c).length)<=2560:=zo;exact Nq M zd)).mono ?_;rintro x k9 ⟨rfl,q6,a6⟩;have e5:=k8.only q6 a6;have q7:=zh (show Ch (λj=>j=u\/j=q) b9 k9 from⟨a6.os,a6.tape,a6.output,a6.size,λj d O=>a6.block j d λe=>O (.inl e)⟩);clear J C;obtain⟨-,-,-,-,-,-,-,e6,-,-,-,-⟩:=bQ e5.cat;have C:=aa e5.cat;go_wp2_with fail;go_loopw [75] (λi wk=>i= .int .i64 0/\wk=k9) (λ_ _=>0)
   case atStart=>exact⟨rfl,rfl⟩
   case round=>
    obtain⟨rfl,rfl⟩:=hrel;clear e6 C;go_wp2_with fail
    have l0:(aq (bM 0) 8++(aq (bM 0) 8++tA c)).length<=2560:=by
     have s:=X.out;unfold la Bg at s;simp only[Nw,am] at s⊢;omega
    refine(qH (v:=0) (r:=aq (bM 0) 8++tA c) e5.ul (Nq l0 zd) (by unfold aQ;omega)).mono ?_;rintro x s7 ⟨rfl,q8,l1⟩;have l2:=e5.only q8 l1;go_wp2_with fail;refine(qH (v:=0) (r:=tA c) l2.ul (by rw[Nw] at l0;omega) (by unfold aQ;omega)).mono ?_;rintro x l3 ⟨rfl,q9,l4⟩;have e7:=l2.only q9 l4;have c1:=l1.trans l4;obtain⟨-,-,-,-,-,-,-,-,-,e8,e9,-⟩:=bQ e7.cat;have C:=aa e7.cat;have a5:=λo=>ad (o:=o) e7.cat
    go_wp2_with fail;obtain⟨f0,f1⟩:=zx ((l3.setCell ⟨q,9,none⟩ (.int .i64 0)).setCell ⟨q,10,none⟩ (.int .i64 0):Qm);have a7:=zh (show uX w f0 u p q #[.int .u64 c.gen,.int .u64 c.id,.int .i64 c.now,.string c.pn,.slice h k n,.slice D k E,.string ⟨#[]⟩,.slice none 0 0,.slice none 0 0,.int .i64 0,.int .i64 0,.slice none 0 0] (tA c) by rw[f1];exact(e7.set 9 (.int .i64 0)).set 10 (.int .i64 0))
    have r0:=zh (show Ch (λj=>j=u\/j=q) b9 f0 by
     have A:Ch (λj=>j=u\/j=q) b9 l3:=q7.trans ⟨c1.os,c1.tape,c1.output,c1.size,λj d O=>c1.block j d λe=>O (.inl e)⟩;rw[f1];exact aP (aP A (.inl (.inr rfl))) (.inl (.inr rfl)))
    rw[<-f1];clear f1 e8 e9 C a5;refine(Dq (es:=c.es) a7.ul (by have:=T.ents.len;omega) s0).mono ?_;rintro x h9 ⟨ev,c2,rfl,l5,a8,f2,r1,a9⟩;have f3:=a7.only r1 a9;have r2:=zh (show Ch (λj=>j=u\/j=q) b9 h9 from r0.trans ⟨a9.os,a9.tape,a9.output,a9.size,λj d O=>a9.block j d λe=>O (.inl e)⟩);have l6:=zh l5;obtain⟨P,Q,rfl⟩:=az a8;obtain⟨R,i0⟩:=zy (c2.length:Nat);rw[<-i0] at a8⊢;clear l5;obtain⟨-,-,-,-,-,-,-,-,-,-,-,f4⟩:=bQ f3.cat;have C:=aa f3.cat;have a5:=λo=>ad (o:=o) f3.cat
    go_wp2_with fail;obtain⟨f5,f6⟩:=zx (h9.setCell ⟨q,11,none⟩ (.slice P R Q):Qm);have f7:Ch (·=q) h9 f5:=by rw[f6];exact aP (Ch.refl _ _) (.inl rfl)
    have l7:=zh (show uX w f5 u p q #[.int .u64 c.gen,.int .u64 c.id,.int .i64 c.now,.string c.pn,.slice h k n,.slice D k E,.string ⟨#[]⟩,.slice none 0 0,.slice none 0 0,.int .i64 0,.int .i64 0,.slice P R Q] [] by rw[f6];exact f3.set 11 (.slice P R Q));have i1: ∀j,f0.heap.size<=j->j≠q/\j≠u:=λj d=>by have A:=aa a7.cat;have M:=a7.ul.lt;exact⟨zo,zo⟩
    have r3:=zh (show re f5 {c with es:=c2} (.slice h k n) (.slice D k E) (.slice none 0 0) (.slice none 0 0) (.slice P R Q) by
     have A:Ch (λj=>j=u\/j=q) b9 f5:=r2.trans (f7.mono λj _ d=> .inr d);obtain⟨f8,i2,i3,f9,g0⟩:=b1.out;refine⟨fa q5 A λj d e=>e.elim (Z.2 j d).2.1 (Z.2 j d).2.2.1,b8.1.ch_ A λj d e=>e.elim (a0 j (b8.2 j d)).1 (a0 j (b8.2 j d)).2.1,by show aH _ _ c.tl;rw[i2];exact⟨none,0,rfl,zm,zm,λs=>absurd rfl s⟩,by show aE _ _ c.src;rw[i3];exact fg _,?_⟩;have l8:=a8.out;rw[i0] at l8;have l9:=(aB.own (k:=6) (enc:=bj.cells) (l:=c2) l8).1;rw[<-i0] at l9;exact⟨l9.ch f7 λj d e=>(i1 j (ar a8 (cJ d)).1).1 e,λe m0=>(f2 e m0).1.ch_ f7 λj d r4=>(i1 j ((f2 e m0).2 j d)).1 r4⟩)
    rw[<-f6];clear f6 f7 i1 f4 C a5;refine zb (yk l7.ul) λr5 m1=>?_
    have c3:=l7.below m1;have m2:=r3.below m1;obtain⟨m3,m4,m5,d4,d5,J,m6,e6,m7,e8,e9,f4⟩:=bQ c3.cat;have C:=aa c3.cat;go_wp2_with fail
    have r6:=zh (show fL r5 (.agg #[.int .u64 c.gen,.int .u64 c.id,.int .i64 c.now,.string c.pn,.slice h k n,.slice D k E,.string ⟨#[]⟩,.slice none 0 0,.slice none 0 0,.int .i64 0,.int .i64 0,.slice P R Q]) {c with es:=c2} by
     obtain⟨f8,i2,i3,f9,g0⟩:=b1.out;refine⟨_,_,_,_,_,?_,m2⟩;dsimp only;rw[f8,f9,g0];rfl)
    have m8:=wT l6 T;have m9:=zh m8;clear m8;refine zb (wx (i5.step ((c3.bel).mono i5.1)) (Nq i5.1 c3.bel.size) r6 m9.1 (by have:=W.2.1;show 0<=c.id/\c.id<=_;omega) ⟨W.1.p,W.1.o⟩) λn0 n1=>?_
    rw[m9.2,<-c4];have V:=c3.below n1;have b0:=m2.below n1;clear m3 m4 m5 d4 d5 J m6 e6 m7 e8 e9 f4 C;obtain⟨m3,m4,m5,d4,d5,J,m6,e6,m7,e8,e9,f4⟩:=bQ V.cat;have C:=aa V.cat;obtain⟨z0,z1,z2,z3,z4,z5,z6,z7,z8,z9,z10,z11⟩:=bQ V.res;have s8:=aa V.res;have s9:=λo=>ad (o:=o) V.res
    go_wp2_with fail;obtain⟨n2,i4⟩:=zx (((((((((((((n0.setCell ⟨p,0,none⟩ (.int .u64 c.gen)).setCell ⟨p,1,none⟩ (.int .u64 c.id)).setCell ⟨p,2,none⟩ (.int .i64 c.now)).setCell ⟨p,3,none⟩ (.string c.pn)).setCell ⟨p,4,none⟩ (.slice h k n)).setCell ⟨p,5,none⟩ (.slice D k E)).setCell ⟨p,6,none⟩ (.string ⟨#[]⟩)).setCell ⟨p,7,none⟩ (.slice none 0 0)).setCell ⟨p,8,none⟩ (.slice none 0 0)).setCell ⟨p,9,none⟩ (.int .i64 0)).setCell ⟨p,10,none⟩ (.int .i64 0)).setCell ⟨p,11,none⟩ (.slice P R Q)):Qm);have r7:=zh (show n2.heap[p]?=some (.cells #[.int .u64 c.gen,.int .u64 c.id,.int .i64 c.now,.string c.pn,.slice h k n,.slice D k E,.string ⟨#[]⟩,.slice none 0 0,.slice none 0 0,.int .i64 0,.int .i64 0,.slice P R Q] 382) by rw[i4];exact iT _ _ _ _ _ _ _ _ _ _ _ _ V.res)
    have a2:=zh (show Ch (·=p) n0 n2 by
     rw[i4]
     iterate 12 refine aP ?_ (.inl rfl)
     exact Ch.refl _ _)
    rw[<-i4];have g1: ∀j,f0.heap.size<=j->j≠p/\w.heap.size<=j:=λj d=>by have A:=aa a7.res;have M:=a7.bel.size;exact⟨zo,zo⟩
    refine NG (v:= .tuple #[.agg #[.int .u64 c.gen,.int .u64 c.id,.int .i64 c.now,.string c.pn,.slice h k n,.slice D k E,.string ⟨#[]⟩,.slice none 0 0,.slice none 0 0,.int .i64 0,.int .i64 0,.slice P R Q],.int .i64 0]) (aJ results369 _ _ _ _ _ _ _ _ rfl rfl r7 underlying382 rfl zk) rfl ⟨_,c2,rfl,l6,?_,λx e3 j d=>(g1 j ((f2 x e3).2 j d)).2,V.bel.trans (a2.below (B:=w.heap.size) (λj d=>by have d:j=p:=d;have:=c5.out;omega) V.bel.size)⟩;obtain⟨f8,i2,i3,f9,g0⟩:=b1.out;refine⟨.slice h k n,.slice D k E,.slice none 0 0,.slice none 0 0,.slice P R Q,?_,⟨fa b0.p a2 λj d e=>(Z.2 j d).2.2.2 e,b0.f.ch_ a2 λj d e=>(a0 j (b8.2 j d)).2.2.2 e,fa b0.o a2 λj d e=>d.elim,b0.s.ch_ a2 λj d e=>d.elim,b0.e.1.ch a2 λj d e=>(g1 j (ar a8 (cJ d)).1).1 e,λy b7=>(b0.e.2 y b7).ch_ a2 λj d e=>(g1 j ((f2 y b7).2 j d)).1 e⟩,λj d=>?_⟩
    ·dsimp only
     rw[f8,f9,g0];rfl
    ·rcases d with d|d|d|d|d
     ·exact(Z.2 j d).1
     ·have A:=b8.2 j d
      have M:=Y.bel.size;omega
     ·exact d.elim
     ·exact d.elim
     ·exact(g1 j (ar a8 (cJ d)).1).2
def rA(gen:Int):Int:=if gen%2=1 then 18 else 28
def MC{w w':Qm}{c:bI}{pv a d sv ev:Qn}(e:re w c pv a d sv ev)(f:Qr w.heap.size w w'):re w' c pv a d sv ev:=e.below f
def zf{B x:Nat}{w:Qm}{rest:List Qn}{T:Qp}{S:aM}{c:bI}{m:Int}(a7:cl B w)(f8:w.cell? ⟨0,0,none⟩=some (.int .i64 m))(f9:0<w.heap.size)(j1:Qs (bD w x rest T S))(hq:c.quiet)(g0:Qs c.valid)(j2:Qs c.short)(j3:Qs (0<=c.id/\c.id<=1000000))(j4:Qs (fR (dE c.pn c.pl) c.pn c.pl))(j5:Qs (∀x∈c.es,x.fit))
 (g1:1<=c.bytes.length/\c.bytes.length<=256) (g2:(S.d.read (rA c.gen)).2=0) (g3:(S.d.read (rA c.gen)).1.size=256) (g4:(S.d.read (rA c.gen)).1.extract 0 c.bytes.length=aO c.bytes):
 Qo zP 311 #[x,.agg #[.int .u64 c.gen,(90:Int),(c.bytes.length:Int)]] w (Bf w c):=by
 have M:=zh (And.intro a7 (And.intro f8 f9));have g5:=zh hq;have d7:=zh (And.intro g2 (And.intro g3 g4));obtain⟨n,b2⟩:=zy (c.bytes.length:Nat);rw[<-b2] at g1⊢;have j6:=g0.plain.gen;obtain⟨j7,d8⟩:=g1;clear a7 f8 f9 hq g2 g3 g4;go_enter func311,ntmps311;go_wp2_with fail;obtain⟨q,a4⟩:=zy w.heap.size;obtain⟨d,N⟩:=zx ((w.alloc (.cells #[.int .u64 c.gen,(90:Int),(n:Int)] 349)).alloc (.cells #[.int .u64 0,.int .u64 0,(),.string ⟨#[]⟩,z0,z0,.string ⟨#[]⟩,z0,z0,(),(),z0] 382):Qm);have f:=zh (show Qr w.heap.size w d by rw[N];exact ai ze ze);have d9:d.heap[q]?=some (.cells #[.int .u64 c.gen,(90:Int),(n:Int)] 349):=by rw[N,a4];exact ab (Nu _ _) ze
 have e0:d.heap[q+1]?=some (.cells #[.int .u64 0,.int .u64 0,(),.string ⟨#[]⟩,z0,z0,.string ⟨#[]⟩,z0,z0,(),(),z0] 382):=by rw[N];exact ag (by rw[a4];simp)
 rw[<-N,<-a4];have u:=zh (And.intro d9 e0);have b3:=j1.below f;clear N d9 e0;obtain⟨b4,b5,b6,b7,b8,b9,c1,c2,c3,c4,c5,c6,c7,c8⟩:=b3.cells;have c9:=aa b3.blk;obtain⟨A,C,D⟩:=aW u.1;have E:=aa u.1;have j8:=zi (2560<n);clear b4 b5 b6 b7 b9 c1 c2 c3 c4 c5 c6 c7 c8;go_quiet (fail);go_wp2_with fail;have g6:=zh (show Qr d.heap.size d (d.drewN nq) from dU zr _);obtain⟨g7,a,g8,g9,h0⟩:=info_parts gi;obtain⟨k,a5⟩:=zy (rA c.gen);have h1:18<=k/\k<=28:=by rw[a5];unfold rA;split<;>omega
 obtain⟨j9,k0⟩:=h1;clear b8 c9 A C D E;go_loopw [6,7] (λv i wr=>(i= .int .i64 0/\v= .slice none 0 0\/i= .int .i64 256/\Qs (wr.ownsRow d.heap.size 3 1 v 1 ([k].flatMap dK)))/\Qs (Qr d.heap.size d wr)) (λ_ i _=>256-(intOf i).toNat)
 case atStart=>exact⟨.inl ⟨rfl,rfl⟩,g6⟩
 case round=>
  obtain⟨d0,F⟩:=hrel;have a6:=b3.below F;have e1:=zh (And.intro (ab u.1 F) (ab u.2 F));obtain⟨A,C,D⟩:=aW e1.1;have E:=aa e1.1;rcases d0 with⟨rfl,rfl⟩|⟨rfl,e2⟩
  ·have h2:0<n:=zo
   have k1:decide (0<n)=true:=NV h2;go_wp2_with fail;refine zb (rm a6 c.gen zo) λh3 d8=>?_
   have B2:=F.trans (d8.mono F.size);have e3:(if c.gen%2=1 then(18:Int) else 28)=k:=by rw[a5];rfl
   rw[e3];clear e3 A C D E;go_wp2_with (at_builtin;refine bb (enc:=dK) rfl _ _ 44 rfl d.heap.size 3 g7 _ 8 underlying44 a g8 g9 h0 rfl zd _ _ 0 [] [k] rfl zw rfl (bC 1 (c:=1) (l:= [k]) (ag zm) rfl ⟨Nt 1,zd⟩) (λ_=>rfl) ?qc1 (by show(0+1)*8<140737488355328;decide) zd ?qc3 ?_)
   case qc1=>intro z O y H;obtain rfl:=Nz.1 O;simp only[dK,NL,NJ,Ou] at H;subst H;rfl
   case qc3=>have:=B2.size;simp;omega
   intro k2 k3 P e4 h4;have e5:=(ai B2 (ak h3 (.cells #[(k:Int)] 3))).trans ((eU e4).mono (by have:=B2.size;simp;omega));have h5:=zh e5;have h6:=zh P;obtain⟨k4,k5,rfl⟩:=az P;clear P e4 h4 e5;go_wp2_with fail;go_roundw
   case rel=>exact⟨.inr ⟨rfl,h6⟩,h5⟩
   case measure=>simp[intOf]
  ·obtain⟨va,vc,rfl⟩:=az e2
   have k6:=zi (256<n);obtain⟨b4,b5,b6,b7,b8,b9,c1,c2,c3,c4,c5,c6,c7,c8⟩:=a6.cells;have c9:=aa a6.blk;clear b4 b5 b6 b7 b8 b9 c1 c3 c4 c5 c6 c7 c8;go_wp2_with fail;have e6:aE wr (.slice va 1 vc) [k]:=ei e2 (λz O=>by obtain rfl:=Nz.1 O;omega);refine(oS a6.disk e6 (zd:1<=100) (λz O=>by obtain rfl:=Nz.1 O;rw[a5];exact d7.1)).mono ?_;rintro y d1 ⟨h7,rfl,P,h8⟩;obtain⟨Q,d2⟩:=zx ((S.d.read k).1);have e7:=zh (show d1.ownsRow wr.heap.size 9 1 h7 1 [.string Q] by rw[d2];exact P);have e8:=zh (show Q.size=256/\Q.extract 0 n=aO c.bytes by rw[d2,a5,b2];exact d7.2);have h:=F.trans (h8.mono F.size);obtain⟨k7,k8,rfl⟩:=az e7;clear e6 d2 c9 c2 E A C D;have k9:=e8.1;obtain⟨g,l0,h9,-,a7,-,-,-,e9⟩:=dr e7 zd;injection h9 with i0 i1 i2
   subst i0 i2;have i3:=e9 0 _ rfl;clear i1 e9;go_wp2_with fail;go_loopw [10,55] (λs i i4=>(i= .int .i64 0/\s= .string ⟨#[]⟩\/i= .int .i64 1/\s= .string Q)/\i4=d1) (λ_ i _=>1-(intOf i).toNat)
   case atStart=>exact⟨.inl ⟨rfl,rfl⟩,rfl⟩
   case round=>
    obtain⟨d0,rfl⟩:=hrel;rcases d0 with⟨rfl,rfl⟩|⟨rfl,rfl⟩
    ·go_wp2_with fail
     go_roundw
     case rel=>exact⟨.inr ⟨rfl,Of Value.string (Qg (by simp[Pi]))⟩,trivial⟩
     case measure=>simp[intOf]
    ·obtain⟨d1,rfl⟩:=zx wr
     have a8:=zh (And.intro (ab u.1 h) (ab u.2 h));obtain⟨A,C,D⟩:=aW a8.1;have E:=aa a8.1;have l1:n<=Q.size:=zo;clear i3 a7;go_wp2_with fail;rw[e8.2];refine(Gq (M.1.step ((f.trans (h.mono f.size)).mono M.1.1)) (((f.trans (h.mono f.size)).cell (p:=⟨0,0,none⟩) M.2.2).trans M.2.1) (No M.2.2 (f.trans (h.mono f.size)).size) g5 g0 j2 j3 j4 (by have:=b2.out;omega) j5).mono ?_;rintro y a9 ⟨v,es,rfl,f0,i5,i6,d3⟩;obtain⟨pv,i7,i8,sv,ev,rfl,f1,f2⟩:=i5;have I:=zh f1;have K:=zh (show∀j,aD pv j\/aD i7 j\/aD i8 j\/aD sv j\/aD ev j->d.heap.size<=j from λj a=>Nq h.size (f2 j a));clear f2;have d4:=zh (And.intro f0 i6);have f3:=zh (And.intro (ab a8.1 d3) (ab a8.2 d3));have f4:=h.trans (d3.mono h.size);have l2:=zh h.size;clear f0 f1 A C D E;obtain⟨R,U,rfl,-,-,-⟩:=id I.p;obtain⟨V,W,rfl,-⟩:=id I.f;obtain⟨X,Y,rfl,-,-,-⟩:=id I.o;obtain⟨Z,a0,rfl,-⟩:=id I.s;obtain⟨a1,a2,rfl,-,-⟩:=id I.e.1;dsimp only at I⊢
     go_upto_region 18 with(fail)
     obtain⟨i9,d5⟩:=zx a9.heap.size;obtain⟨b0,b1⟩:=zx (a9.alloc (.cells #[.int .u64 c.gen,.int .u64 c.id,(c.now:Int),c.pn,.slice R c.pl.length U,.slice V c.fl.length W,c.tn,.slice X c.tl.length Y,.slice Z c.src.length a0,(c.bound:Int),(c.done:Int),.slice a1 es.length a2] 382):Qm);have a3:Qr a9.heap.size a9 b0:=by rw[b1];exact ak _ _
     have f5:b0.heap[i9]?=some (.cells #[.int .u64 c.gen,.int .u64 c.id,(c.now:Int),c.pn,.slice R c.pl.length U,.slice V c.fl.length W,c.tn,.slice X c.tl.length Y,.slice Z c.src.length a0,(c.bound:Int),(c.done:Int),.slice a1 es.length a2] 382):=by rw[b1,d5];exact Nu _ _
     rw[<-b1,<-d5];have r:=zh (And.intro (ab f3.1 a3) (And.intro (ab f3.2 a3) f5));have L:=zh (MC I a3);have f6:=f4.trans (a3.mono f4.size);clear b1 d5 a3 f5;obtain⟨A,C,D⟩:=aW r.1;have E:=aa r.1;obtain⟨z0,z1,z2,z3,z4,z5,z6,z7,z8,z9,z10,z11⟩:=bQ r.2.1;have l3:=aa r.2.1;have l4:=λo=>ad (o:=o) r.2.1
     obtain⟨l5,l6,l7,l8,l9,m0,m1,m2,m3,m4,m5,m6⟩:=bQ r.2.2;have m7:=aa r.2.2;go_wp2_with fail;obtain⟨f7,d6⟩:=zx (((((((((((((b0.setCell ⟨q+1,0,none⟩ (.int .u64 c.gen)).setCell ⟨q+1,1,none⟩ (.int .u64 c.id)).setCell ⟨q+1,2,none⟩ (.int .i64 c.now)).setCell ⟨q+1,3,none⟩ (.string c.pn)).setCell ⟨q+1,4,none⟩ (.slice R c.pl.length U)).setCell ⟨q+1,5,none⟩ (.slice V c.fl.length W)).setCell ⟨q+1,6,none⟩ (.string c.tn)).setCell ⟨q+1,7,none⟩ (.slice X c.tl.length Y)).setCell ⟨q+1,8,none⟩ (.slice Z c.src.length a0)).setCell ⟨q+1,9,none⟩ (.int .i64 c.bound)).setCell ⟨q+1,10,none⟩ (.int .i64 c.done)).setCell ⟨q+1,11,none⟩ (.slice a1 es.length a2)):Qm);have j0:=zh (show f7.heap[q+1]?=some (.cells #[.int .u64 c.gen,.int .u64 c.id,(c.now:Int),c.pn,.slice R c.pl.length U,.slice V c.fl.length W,c.tn,.slice X c.tl.length Y,.slice Z c.src.length a0,(c.bound:Int),(c.done:Int),.slice a1 es.length a2] 382) by rw[d6];exact iT _ _ _ _ _ _ _ _ _ _ _ _ r.2.1)
     have J:=zh (show Ch (·=q+1) b0 f7 by
      rw[d6]
      iterate 12 refine aP ?_ (.inl rfl)
      exact Ch.refl _ _)
     rw[<-d6];have t: ∀j,d.heap.size<=j->j≠q+1/\w.heap.size<=j:=λj a=>by have m8:=aa u.2;have m9:=f.size;exact⟨zo,zo⟩
     refine NG (v:= .tuple #[.agg #[.int .u64 c.gen,.int .u64 c.id,(c.now:Int),c.pn,.slice R c.pl.length U,.slice V c.fl.length W,c.tn,.slice X c.tl.length Y,.slice Z c.src.length a0,(c.bound:Int),(c.done:Int),.slice a1 es.length a2],()]) (aJ results311 _ _ _ _ _ _ _ _ rfl rfl j0 underlying382 rfl zk) rfl ⟨_,es,rfl,d4.1,⟨_,_,_,_,_,rfl,⟨fa L.p J λj a e=>(t j (K j (.inl a))).1 e,L.f.ch_ J λj a e=>(t j (K j (.inr (.inl a)))).1 e,fa L.o J λj a e=>(t j (K j (.inr (.inr (.inl a))))).1 e,L.s.ch_ J λj a e=>(t j (K j (.inr (.inr (.inr (.inl a)))))).1 e,L.e.1.ch J λj a e=>(t j (K j (.inr (.inr (.inr (.inr a)))))).1 e,λy H=>(L.e.2 y H).ch_ J λj a e=>(t j (Nq h.size (d4.2 y H j a))).1 e⟩,λj a=>(t j (K j a)).2⟩,λy H j a=>(t j (Nq h.size (d4.2 y H j a))).2,?_⟩;exact(f.trans (f6.mono f.size)).trans (J.below (B:=w.heap.size) (λj a=>by have a:j=q+1:=a;have:=a4.out;omega) (Nq f.size f6.size))
def aA.key4(p:aA):Int×Int×Int×Int:=(p.id,p.tier,p.shard,p.blk)
structure pF(w0 w:Qm)(L:List aA)(es:List bj)(rf:Int->ay):Prop where
 key:L.map aA.key4=es.map bj.key
 bv:L.map aA.bv=es.map bj.bv
 recs: ∀p∈L,p.r=rf p.blk
 rows: ∀p∈L,aB 7 ay.cells w p.rv [p.r]/\aE w p.bv [p.blk]
 ge: ∀p∈L,∀j,aD p.rv j->w0.heap.size<=j
def Gr(w:Qm)(es:List bj)(rf:Int->ay)(e:Qq)(w':Qm):Prop:= ∃(v:Qn) (L:List aA),e= .returned (.tuple #[v,()])/\Qs (w'.ownsRow w.heap.size 340 7 v L.length (L.flatMap aA.cells))/\Qs (pF w w' L es rf)/\Qs (Qr w.heap.size w w')
def Dt{x:Nat}{w:Qm}{rest:List Qn}{T:Qp}{S:aM}{c:bI}{v:Qn}{rf:Int->ay}(l8:Qs (bD w x rest T S))(l9:fL w v c)(m0:c.es.length<=20)
 (m1:Qs (∀e∈c.es,(38<=e.blk/\e.blk<90)/\fJ e.id e.tier e.shard/\(rf e.blk).good/\S.d.read e.blk=(aO (fs e.id e.tier e.shard 0 1 [rf e.blk]),0))):
 Qo zP 312 #[x,v] w (Gr w c.es rf):=by
 obtain⟨pv,h9,i0,sv,ev,rfl,c1⟩:=l9;have i1:=zh c1;obtain⟨e8,e9,rfl,-,-⟩:=id c1.e.1;obtain⟨N,a8⟩:=zy (c.es.length:Nat);rw[<-a8] at m0⊢;clear c1;go_enter func312,ntmps312;go_wp2_with fail;obtain⟨q,c2⟩:=zx (w.alloc (.cells #[.int .u64 c.gen,.int .u64 c.id,(c.now:Int),c.pn,pv,h9,c.tn,i0,sv,(c.bound:Int),(c.done:Int),.slice e8 N e9] 382):Qm);have O:=zh (show Qr w.heap.size w q by rw[c2];exact ak _ _);rw[<-c2];have i2:=l8.below O;have f0:=zh (show nM q (.slice e8 N e9) c.es from by have:=i1.e.below O;rw[<-a8] at this;exact this);obtain⟨i3,i4,i5,i6,i7⟩:=info_parts kD;clear c2;go_loopw [6,17] (λv i wr=> ∃(k:Nat) (L:List aA),k<=N/\i= .int .i64 k/\Qs (wr.ownsRow w.heap.size 340 7 v L.length (L.flatMap aA.cells)/\L.length=k)/\Qs (pF w wr L (c.es.take k) rf)/\Qs (Qr q.heap.size q wr)/\Qs (∀g,v.ownBlock=some g->q.heap.size<=g)/\Qs (∀p∈L,∀j,aD p.rv j\/aD p.bv j->v.ownBlock≠some j)) (λ_ i _=>N-(intOf i).toNat)
 case atStart=>exact⟨0,[],Nx _,rfl,zh ⟨World.ownsRow_nil _ _ _ _,rfl⟩,zh ⟨rfl,rfl,λp d=>(by cases d),λp d=>(by cases d),λp d=>(by cases d)⟩,zh zr,zh (λg h=>by cases h),zh (λp d=>by cases d)⟩
 case round=>
  obtain⟨k,L,m2,rfl,m,C,D,f1,a9⟩:=hrel;obtain⟨P,rfl⟩:=zx wr;obtain⟨va,vc,i8⟩:=az m.1;subst i8;obtain⟨E,b0⟩:=zy (L.length:Nat);rw[<-b0] at m f1 a9⊢;have i9:=i2.below D;have f2:=f0.below D;by_cases f3:k<N
  ·have f4:k<c.es.length:=by rw[<-a8];exact f3
   obtain⟨a,b1⟩: ∃a,c.es[k]?=some a:=⟨_,Np f4⟩;have c3:a∈c.es:=NO b1;have f5:=m1 a c3;have c4:=f2.2 a c3;obtain⟨b,o,rfl,j0,j1,j2,j3,j4,j5,f6⟩:=nO f2 b1;obtain⟨c5,t,b2,-,j6,f7⟩:=id c4;have u:=zh (And.intro b1 f5);have j7:=zh c4;have m3:E<=20:=by have:=m.2;omega
   clear f4 b1 c3 f5 c4;rw[b2] at f6;go_wp2_with fail;obtain⟨j8,c6⟩:=zx P.heap.size;obtain⟨Q,b3⟩:=zx (P.alloc (.cells #[.int .u64 a.id,(a.tier:Int),(a.shard:Int),(),(1:Int),.slice c5 1 t] 338):Qm);have s:=zh (show Qr P.heap.size P Q by rw[b3];exact ak _ _);have c7:=zh (show Q.heap[j8]?=some (.cells #[.int .u64 a.id,(a.tier:Int),(a.shard:Int),(),(1:Int),.slice c5 1 t] 338) by rw[b3,c6];exact Nu _ _);rw[<-b3,<-c6];have j9:=i9.below s;have f8:=zh (show aE Q (.slice c5 1 t) [a.blk] by have:=j7.below s;rw[b2] at this;exact this);have f9:=zh b2;obtain⟨F,H,k0,c8,g0⟩:=f7 zm;subst k0;have c9:=zh (And.intro (No c8 s.size) ((s.cell (p:=⟨F,H,none⟩) c8).trans (by have:=g0 0 zm;simpa using this)));clear b3 c6 b2 j6 f7 c8 g0 j0 j1 j2 j3 j4 j5 f6;go_loopw [24] (λi k1=>(i= .int .i64 0\/i= .int .i64 1)/\Qs (Qr Q.heap.size Q k1)) (λi _=>1-(intOf i).toNat)
   case atStart=>exact⟨.inl rfl,zh zr⟩
   case round=>
    obtain⟨k2,A⟩:=hrel;have W:=j9.below A;have g1:=zh (ab c7 A);rcases k2 with rfl|rfl
    ·obtain⟨g2,d0,d1,d2,d3,g3,d4,d5,d6,d7,d8,d9,e0,e1⟩:=W.cells
     have g4:=aa W.blk;have m4:=(A.cell (p:=⟨F,H,none⟩) c9.1).trans c9.2;have m5:=No c9.1 A.size;obtain⟨⟨m6,m7⟩,-⟩:=u.2;have m8:=zi (a.blk<38);have m9:=zi (90<=a.blk);clear d0 d1 d2 d3 d4 d5 d6 d7 d8 d9 e0 e1;go_wp2_with fail;go_roundw
     case rel=>exact⟨.inr rfl,A⟩
     case measure=>simp[intOf]
    ·obtain⟨g2,d0,d1,d2,d3,g3,d4,d5,d6,d7,d8,d9,e0,e1⟩:=W.cells
     have g4:=aa W.blk;obtain⟨X,Y,Z,a0,a1,a2⟩:=wt g1;have a3:=aa g1;clear g2 d0 d1 d2 d3 g3 d4 d6 d7 d8 d9 e0 e1;go_wp2_with fail;have e2:=zh (show Qr wr.heap.size wr wr.drew from zr.drew);have e3:=oS (W.below e2.out).disk ((f8.below A).below e2.out) (zd:1<=100) (λz a4=>by obtain rfl:=Nz.1 a4;rw[u.2.2.2.2]);have g5:([a.blk].map λk=>(S.d.read k).1)= [aO (fs a.id a.tier a.shard 0 1 [rf a.blk])]:=by rw[Oq,u.2.2.2.2];rfl
     rw[g5] at e3;have k3:=zh e3;clear e3 g5;go_region_with (refine k3.mono ?_;rintro y g6 ⟨n0,rfl,I,g7⟩;have k4:=zh I;have b4:=A.trans ((e2.out.trans g7).mono A.size);obtain⟨k5,k6,rfl⟩:=az I;clear I g7)
     all_goals
      clear d5 g4 X Y Z a0 a1 a2 a3;have g8:=zh (ab c7 b4);obtain⟨X,Y,Z,a0,a1,a2⟩:=wt g8;have a3:=aa g8;go_wp2_with fail;have g9:bq g6 (.slice k5 1 k6) [aO (fs a.id a.tier a.shard 0 1 [rf a.blk])]:=tw (aB.own (k:=1) (enc:=hU) (l:= [aO (fs a.id a.tier a.shard 0 1 [rf a.blk])]) k4).1 (λz a4=>by obtain rfl:=Nz.1 a4;rw[cv,jY (λr k7=>by obtain rfl:=Nz.1 k7;exact u.2.2.2.1) zm];decide);refine(Fr g6 g9 u.2.2.2.1 u.2.2.1).mono ?_;rintro y a5 ⟨n1,rfl,h0,k8,k9⟩;obtain⟨R,rc,rfl,-,-⟩:=id h0;have e4:=zh (And.intro h0 (show∀j,aD (.slice R [rf a.blk].length rc) j->Q.heap.size<=j from λj f=>Nq b4.size (fC k8 f)));have b5:=b4.trans (k9.mono b4.size);have h1:=zh (ab c7 b5);have h2:=zh (aZ m.1 (w':=a5) λg h=>(b5.block g (No (ar m.1 h).2.1 s.size)).trans (s.block g (ar m.1 h).2.1));have a6:=s.trans (b5.mono s.size);clear g9 X Y Z a0 a1 a2 a3;obtain⟨X,Y,Z,a0,a1,a2⟩:=wt h1;have a3:=aa h1;obtain⟨e5,J⟩:=zy (⟨a.id,a.tier,a.shard,a.blk,rf a.blk,.slice (some ⟨F,H,none⟩) 1 t,.slice R [rf a.blk].length rc⟩:aA);go_wp2_with (at_builtin;refine bb (enc:=aA.cells) rfl _ _ 333 rfl w.heap.size 340 i3 _ 88 underlying333 i4 i5 i6 i7 rfl zd _ _ E _ [aA.mk a.id a.tier a.shard a.blk (rf a.blk) (.slice (some ⟨F,H,none⟩) 1 t) (.slice R [rf a.blk].length rc)] rfl (aZ h2 λg h=>ze.block g (ar h2 h).2.1) rfl (bC 7 (c:=1) (l:= [aA.mk a.id a.tier a.shard a.blk (rf a.blk) (.slice (some ⟨F,H,none⟩) 1 t) (.slice R [rf a.blk].length rc)]) (ag zm) rfl ⟨Nt 1,zd⟩) (λ_=>rfl) ?qc1 (by show(E+1)*88<140737488355328;omega) zd ?qc3 ?_)
      case qc1=>intro z a4 y h3;obtain rfl:=Nz.1 a4;simp only[aA.cells,NL,NJ,Ou] at h3;rcases h3 with rfl|rfl|rfl|rfl|rfl|rfl|rfl<;>rfl
      case qc3=>have n:=a6.size;have U:=D.size;have b6:=O.size;simp;omega
      intro e6 h4 I h5 e7;have V:Ch (λg=>(Value.slice va E vc).ownBlock=some g) a5 h4:=fQ (Ch.fresh (ak a5 (.cells #[.int .u64 a.id,(a.tier:Int),(a.shard:Int),(),(1:Int),.slice (some ⟨F,H,none⟩) 1 t,.slice R [rf a.blk].length rc] 340))) h5 (λg h=> .inl h);have K: ∀g,(Value.slice va E vc).ownBlock=some g->q.heap.size<=g/\g<P.heap.size:=λg h=>⟨f1 g h,(ar m.1 h).2.1⟩
      have h6:=a6.size;have h7:=s.size;have b7: ∀j,aD (.slice (some ⟨F,H,none⟩) 1 t) j->j<q.heap.size:=λj f=>iV (f0.2 a (NO u.1)) (by rw[f9];exact f)
      have a7: ∀j,aD (.slice R [rf a.blk].length rc) j->P.heap.size<=j/\j<a5.heap.size:=λj f=>⟨Nq h7 (e4.2 j f),jl e4.1 f⟩
      have b8: ∀j,(Value.slice va E vc).ownBlock≠some j->j<a5.heap.size->e6.ownBlock≠some j:=λj n U e=>by
       rcases e7 with M|M
       ·rw[M] at e;exact n e
       ·have b6:=M j e
        simp at b6;omega
      have l0:=D.size
      have l1:=zh (show∀p∈L++ [e5],∀j,aD p.rv j\/aD p.bv j->e6.ownBlock≠some j from λp d j f=>by
       rcases Og.1 d with d|d
       ·exact b8 j (a9 p d j f) (No (gH (C.rows p d) f) h6)
       ·obtain rfl:=Nz.1 d
        rw[J] at f;rcases f with f|f
        ·exact b8 j (λe=>by have n:=(K j e).2;have U:=(a7 j f).1;omega) (a7 j f).2
        ·exact b8 j (λe=>by have n:=(K j e).1;have U:=b7 j f;omega) (by have:=b7 j f;omega))
      have l2:=zh (show pF w h4 (L++ [e5]) (c.es.take (k+1)) rf from by
       have h8:c.es.take (k+1)=c.es.take k++ [a]:=by rw[OH,u.1];rfl
       refine⟨by rw[NU,h8,NU,C.key,J];rfl,by rw[NU,h8,NU,C.bv,J,List.map_singleton,List.map_singleton,f9];rfl,λp d=>?_,λp d=>?_,λp d j f=>?_⟩
       ·rcases Og.1 d with d|d
        ·exact C.recs p d
        ·obtain rfl:=Nz.1 d
         rw[J]
       ·rcases Og.1 d with d|d
        ·have n:=C.rows p d
         exact⟨(n.1.below a6).ch V λj f e=>a9 p d j (.inl f) e,(n.2.below a6).ch_ V λj f e=>a9 p d j (.inr f) e⟩
        ·obtain rfl:=Nz.1 d
         rw[J];exact⟨e4.1.ch V λj f e=>by have n:=(K j e).2;have U:=(a7 j f).1;omega,(f8.below b5).ch_ V λj f e=>by have n:=(K j e).1;have U:=b7 j f;omega⟩
       ·rcases Og.1 d with d|d
        ·exact C.ge p d j f
        ·obtain rfl:=Nz.1 d
         rw[J] at f;have n:=(a7 j f).1;have U:=O.size;omega)
      have l3:=zh ((D.trans (a6.mono D.size)).trans (V.below (B:=q.heap.size) (λj f=>(K j f).1) zo))
      have l4:=zh (show∀g,e6.ownBlock=some g->q.heap.size<=g from λg h=>by
       rcases e7 with M|M
       ·rw[M] at h;exact(K g h).1
       ·have b6:=M g h
        simp at b6;omega)
      have l5:=zh I;obtain⟨n2,n3,rfl⟩:=az I;clear V K h6 h7 b7 a7 b8 l0 I h5 e7 X Y Z a0 a1 a2 a3;have l6:=m.2;go_wp2_with fail;go_roundw
      case rel=>
       refine⟨k+1,L++ [e5],zo,by go_num,?_,l2,l3,l4,l1⟩;have b9:=l5.out;refine zh ⟨?_,by rw[Nw,<-b0];show E+1=_;omega⟩;rw[Nw,NK,J,<-b0];exact b9
      case measure=>simp[intOf];omega
  ·have l7:k=N:=zo
   have l6:=m.2;clear f3;subst l7;go_wp2_with fail;go_ret2;refine⟨_,L,rfl,by rw[<-b0];exact m.1,?_,O.trans (D.mono O.size)⟩;have b9:=C.out;rw[NC (by rw[<-a8];exact Nt _)] at b9;exact b9
def Gs(a b:Option Addr)(c d:Nat)(w:Qm):Qo zP 437 #[.slice a 0 c,.slice b 0 d] w (aK w (.bool true)):=by
 go_enter func437,ntmps437;go_wp2_with fail;go_loopw [13] (λi wr=>i= .int .i64 0/\wr=w) (λ_ _=>0)
 case atStart=>exact⟨rfl,rfl⟩
 case round=>
  obtain⟨rfl,rfl⟩:=hrel;go_wp2;go_ret;exact⟨rfl,ND _ _⟩
def zn(a:Option Addr)(c:Nat)(w:Qm):Qo zP 422 #[.agg #[.string ⟨#[]⟩,.slice a 0 c],.agg #[.string ⟨#[]⟩,z0]] w (aK w (.bool true)):=by
 go_enter func422,ntmps422;go_wp2_with fail;refine zb (Gs _ _ _ _ _) λe d=>?_
 go_wp2;go_ret;exact⟨rfl,ai (ai ze ze) d⟩
def zC(a:Option Addr)(c:Nat)(w:Qm):Qo zP 378 #[.agg #[.string ⟨#[]⟩,.slice a 0 c]] w (aK w (.bool true)):=by
 go_enter func378,ntmps378;go_wp2_with fail;refine zb (zn _ _ _) λe d=>?_
 go_wp2;go_ret;exact⟨rfl,ai ze d⟩
def zG{w:Qm}{B E t k:Nat}{τ:dJ}{h5 h6 h7:Qn}{ps:List bF}{p:aA}{n:ByteArray}{pv:Qn}(e7:hY w B E t τ h5 h6 h7 ps)(e8:p.tier=k)(e9:k<τ.tabs.length)(f0:τ.tabs.length<=5)(f1:τ.tabs.length=τ.r.l.length)(f2:aQ τ.r.now)(f3: ∀k,k<τ.tabs.length->aQ (τ.es.getD k 0))(f4:τ.tabs.getD k none=none)
 (b8:aH w pv τ.r.l) (b9:aB 7 ay.cells w p.rv [p.r]) (c1:0<=p.shard/\p.shard<(τ.r.l.getD k ah.zero).shards/\(τ.r.l.getD k ah.zero).shards<=8) (f5:cV p.r.name (τ.r.l.getD k ah.zero).shards=p.shard) (a8:p.r.ok/\cI (τ.es.getD k 0) p.r=true/\τ.r.from k<=p.r.start) (f6:p.r.name.size<=1000000):
 Qo zP 379 #[p.val,(),.agg #[n,pv],.func (.func 187) #[t] #[]] w (AT w B E t ⟨τ.r,τ.tabs.set k (some p.r)⟩ (.bool true)):=by
 have H:=zh e7;have N:=zh (And.intro e9 (And.intro f0 (And.intro f1 (And.intro f2 (And.intro f3 f4)))));have h8:=zh b8;have c2:=zh b9;have a0:=zh (And.intro a8 (And.intro f5 f6));obtain⟨h9,c3,rfl,-,-,c4⟩:=id b8;obtain⟨i0,rc,c5,-,c6⟩:=id b9;obtain⟨f,a1,f7,c7,j⟩:=c6 zm;have a2:k<τ.r.l.length:=zo;obtain⟨O,c8,f8,c9,d0⟩:=c4 (by intro e;rw[e] at a2;simp at a2);subst f8 f7;obtain⟨-,-,-,a9⟩:=d0 k a2;obtain⟨b0,b1⟩:=zx ((τ.r.l.getD k ah.zero).shards);rw[<-b1] at a9 c1;have f9:=zh b1;obtain⟨a3,b2⟩:=zx (τ.r.l.length:Nat);have i1:=zh b2;rw[<-b2] at a2⊢;have i2:a3<=5:=zo;have b3:=j 0 _ rfl;have d1:=j 1 _ rfl;have d2:=j 2 _ rfl;have d3:=j 3 _ rfl;have d4:=j 4 _ rfl;have d5:=j 5 _ rfl;have d6:=j 6 _ rfl;rw[NR] at b3;have d7:=zh (And.intro b3 (And.intro d1 (And.intro d2 (And.intro d3 (And.intro d4 (And.intro d5 d6))))));have v:=zh (And.intro a9 c9);have l:=zh c7;obtain⟨d8,i3,a4,i4,a,d9,i5⟩:=p;dsimp only at e8 c1 c5 c2 a0 d7;subst e8 c5;clear e7 e9 f0 f1 f2 f3 f4 b8 b9 f5 a8 f6 c4 c6 j d0 a9 b3 d1 d2 d3 d4 d5 d6 b1 b2 c9 c7;unfold aA.val;dsimp only;go_enter func379,ntmps379;go_wp2_with fail;obtain⟨q,hq⟩:=zx w.heap.size;obtain⟨m,P⟩:=zx ((w.alloc (.cells #[.int .u64 d8,(k:Int),(a4:Int),(),(1:Int),d9,.slice (some ⟨f,a1,none⟩) 1 rc] 340)).alloc (.cells #[n,.slice (some ⟨O,c8,none⟩) a3 c3] 32):Qm);have e0:Qr w.heap.size w m:=by rw[P];exact ai ze ze
 have e1:m.heap[q]?=some (.cells #[.int .u64 d8,(k:Int),(a4:Int),(),(1:Int),d9,.slice (some ⟨f,a1,none⟩) 1 rc] 340):=by rw[P,hq];exact ab (Nu _ _) ze
 have e2:m.heap[q+1]?=some (.cells #[n,.slice (some ⟨O,c8,none⟩) a3 c3] 32):=by rw[P];exact ag (by rw[hq];simp)
 rw[<-P,<-hq];have a5:=zh e0;have g:=zh (And.intro e1 e2);have g0:=zh hq;clear P e0 e1 e2 hq;obtain⟨x,A,C,D,F,I,o⟩:=dT g.1;have J:=aa g.1;obtain⟨Q,R⟩:=bE g.2;have s:=aa g.2;have K:=(a5.cell (p:=⟨O,_,none⟩) v.2).trans v.1;have u:=No v.2 a5.size;obtain⟨i6,i7,i8⟩:=c1;have g1:=zh (show cV a.name b0=a4 by rw[f9];exact a0.2.1);have i9:=zi ((k:Int)<0);have g2:=zi (a3<=k);have g3:=zi (b0<=a4);clear x A D F I;go_quiet (fail);go_wp2_with fail;have g4:=zh (show Qr m.heap.size m (m.drewN nq) from dU zr _);clear K u g2 g3 C o J Q R s;go_loopw [43] (λi wr=>(i= .int .i64 0\/i= .int .i64 1)/\Qs (Qr m.heap.size m wr)) (λi _=>1-(intOf i).toNat)
 case atStart=>exact⟨.inl rfl,g4⟩
 case round=>
  obtain⟨g5,h⟩:=hrel;have c:=a5.trans (h.mono a5.size);obtain⟨x,A,C,D,F,I,o⟩:=dT (ab g.1 h);have J:=aa (ab g.1 h);rcases g5 with rfl|rfl
  ·obtain⟨Q,R⟩:=bE (ab g.2 h)
   have s:=aa (ab g.2 h);have K:=(c.cell (p:=⟨O,_,none⟩) v.2).trans v.1;have u:=No v.2 c.size;obtain⟨T,U,V,W,X,Y,Z⟩:=d7.out;have b4:=No l c.size;replace T:=(c.cell (p:=⟨f,_,none⟩) l).trans T;replace U:=(c.cell (p:=⟨f,_,none⟩) l).trans U;replace V:=(c.cell (p:=⟨f,_,none⟩) l).trans V;replace W:=(c.cell (p:=⟨f,_,none⟩) l).trans W;replace X:=(c.cell (p:=⟨f,_,none⟩) l).trans X;replace Y:=(c.cell (p:=⟨f,_,none⟩) l).trans Y;replace Z:=(c.cell (p:=⟨f,_,none⟩) l).trans Z;go_wp2_with fail;obtain⟨g6,b5⟩:=zx wr.heap.size;obtain⟨b6,a6⟩:=zx (wr.alloc (.cells #[a.name,(a.start:Int),(a.agg.c:Int),(a.agg.hi:Int),.int .u64 a.agg.lo,(a.agg.mn:Int),(a.agg.mx:Int)] 65):Qm);have L:Qr wr.heap.size wr b6:=by rw[a6];exact ak _ _
   have e3:=zh (show b6.heap[g6]?=some (.cells #[a.name,(a.start:Int),(a.agg.c:Int),(a.agg.hi:Int),.int .u64 a.agg.lo,(a.agg.mn:Int),(a.agg.mx:Int)] 65) by rw[a6,b5];exact Nu _ _);rw[<-a6,<-b5];have e4:=h.trans (L.mono h.size);have a7:=zh (And.intro (ab (ab g.1 h) L) (ab (ab g.2 h) L));have g7:=zh (And.intro ((L.cell (p:=⟨O,_,none⟩) u).trans K) (No u L.size));clear a6 b5 L x A C D F I o J Q R s K u T U V W X Y Z b4;obtain⟨x,A,C,D,F,I,o⟩:=dT a7.1;have J:=aa a7.1;obtain⟨Q,R⟩:=bE a7.2;have s:=aa a7.2;obtain⟨K,u⟩:=g7.out;obtain⟨T,U,V,W,X,Y,Z⟩:=dT e3;have b4:=aa e3;refine aC (S:=(iz b6)) 13 zk ?_ (λd=>?_)
   ·(first|exact ax _|exact aj _ _ d e5|exact aj _ _ d ze|exact d)
   refine zT 0 ?_;refine zT 1 ?_;refine zT 2 ?_;refine zT 3 ?_;refine zT 4 ?_;refine zT 5 ?_;refine zT 6 ?_;refine zT 8 ?_;refine zT 9 ?_;refine zT 10 ?_;refine zT 11 ?_;refine zO 7 λg8 b7=>?_
   go_simp;refine zb (ri a b0 _ a0.2.2 (by unfold aQ;omega)) λj0 e5=>?_;rw[g1]
   refine zE b7 (by first|exact ax _|exact aj _ _ d e5|exact aj _ _ d ze|exact d) λd=>?_
   refine zT 12 ?_;refine zH ?_;have g9:=e4.trans (d.1.mono e4.size);clear d x A C D F I o J Q R s K u T U V W X Y Z b4;go_wp2_with fail;go_roundw
   case rel=>exact⟨.inr rfl,g9⟩
   case measure=>simp[intOf]
  ·have h0:=H.below c
   have h1:=c2.below c;clear x A C D F I;have h2: ¬(B<=q/\q<E):=λe=>by have:=H.iv.2;have:=g0.out;omega
   have s:=lB (h0.below (show Qr wr.heap.size wr wr.drew from zr.drew)) k N.1 (by have:=N.2.1;omega) N.2.2.2.1 N.2.2.2.2.1 N.2.2.2.2.2 (.slice (some ⟨f,a1,none⟩) 1 rc) (some a) (h1.below zr.drew) (λr a8=>by obtain rfl:=Oa a8;exact a0.1);have h3:=zh s;clear s;go_wp2_with fail;refine aC (S:=(λw'=>w'.cell? ⟨q,6,none⟩=some (.slice (some ⟨f,a1,none⟩) 1 rc))) 9 zk ?_ (λd=>?_)
   ·(first|exact o|exact e6|exact d)
   refine zU 0 ?_;refine zU 1 ?_;refine zU 2 ?_;refine zU 3 ?_;refine zU 5 ?_;refine zU 6 ?_;refine zU 7 ?_;refine zO 4 λg8 b7=>?_
   go_simp;refine h3.mono ?_;rintro y j1 ⟨rfl,h4,M⟩;have e6:=(bT M J h2).trans o;refine zE b7 (by first|exact o|exact e6|exact d) λd=>?_
   refine zU 8 ?_;refine zF ?_;go_wp2;go_ret;exact⟨rfl,h4,(Ch.fresh c).trans ⟨M.os,M.tape,M.output,M.size,M.block⟩⟩
def fb(n:Nat)(L:List aA):List (Option ay):=L.foldl (λT p=>T.set p.tier.toNat (some p.r)) (List.replicate n none)
def tC(n:Nat)(L:List aA):(fb n L).length=n:=by
 unfold fb
 have: ∀(L:List aA) (T:List (Option ay)),(L.foldl (λT p=>T.set p.tier.toNat (some p.r)) T).length=T.length:=λL=>by
  induction L with
  |nil=>intro T;rfl
  |cons p L a=>intro T;rw[Qj,a,List.length_set]
 rw[this,Pg]
def zK{n:Nat}{L:List aA}{k:Nat}{p:aA}(a:L[k]?=some p):fb n (L.take (k+1))=(fb n (L.take k)).set p.tier.toNat (some p.r):=by
 unfold fb;rw[OH,a,OS];rfl
def Gt{w:Qm}{v:Qn}{l:List ah}(m:aH w v l){j:Nat}(f:aD v j):j<w.heap.size:=by
 obtain⟨a,c,rfl,-,-,h⟩:=m;cases a with
 |none=>exact f.elim
 |some n=>
  obtain⟨i,d⟩:=f;obtain⟨g,z,e,o,-⟩:=h (λk=>i (by rw[k];rfl));injection e with e
  rw[e] at d;have d:g=j:=d;omega
def Jf{n:ByteArray}{l:List ah}(c:cD n l=true){k:Nat}(d:k<l.length):1<=(l.getD k ah.zero).every/\(l.getD k ah.zero).every<=1000000:=by
 have f:=(aN c).2.2 k d;obtain⟨-,-,e⟩:=df c;obtain⟨-,-,-,a⟩:=cZ (e k d);rcases a with⟨-,a⟩|⟨g,x,-,-,-,h,-⟩<;>omega
def nX(c:bI):RV:=⟨c.now,c.pn,c.pl,c.fl⟩
def rB(c:bI)(L:List aA)(k:Nat)(p:aA):Prop:= ∃j:Nat,p.tier=j/\j<c.pl.length/\(fb c.pl.length (L.take k)).getD j none=none/\(0<=p.shard/\p.shard<(c.pl.getD j ah.zero).shards/\(c.pl.getD j ah.zero).shards<=8)/\cV p.r.name (c.pl.getD j ah.zero).shards=p.shard/\(p.r.ok/\cI (c.pl.getD j ah.zero).every p.r=true/\(nX c).from j<=p.r.start)/\p.r.name.size<=1000000
def Bh(c:bI)(T:List (Option ay)){j:Nat}(a:j<c.pl.length):(dJ.es ⟨nX c,T⟩).getD j 0=(c.pl.getD j ah.zero).every:=by
 unfold dJ.es nX;rw[Nr,OG,Nr,Np a];rfl
def zM{x:Nat}{w:Qm}{rest:List Qn}{T:Qp}{S:aM}{c:bI}{v pv:Qn}{L:List aA}(l1:Qs (bD w x rest T S))(l2:fL w v c)(hq:c.quiet)(g9:c.valid)(h0:iM c.pl c.fl)
 (h1:Qs (aB 7 aA.cells w pv L)) (l3:Qs (∀p∈L,aB 7 ay.cells w p.rv [p.r]/\aE w p.bv [p.blk])) (l4:L.length<=20) (l5:Qs (∀k p,L[k]?=some p->rB c L k p)) (h2:cz (fb c.pl.length L) c.pl.length<=26):
 Qo zP 313 #[x,v,pv] w (λe w'=> ∃b,e= .returned (.tuple #[b.s,true])/\Qs (bJ w' b ⟨26,⟨nX c,fb c.pl.length L⟩,none⟩)/\Qs (∀k,b.own k->w.heap.size<=k)/\Qs (Qr w.heap.size w w')):=by
 have a:=zh (And.intro g9 (And.intro h0 (And.intro hq h2)));obtain⟨l6,l7,h3,sv,ev,rfl,H⟩:=l2;have d9:=zh H;obtain⟨m,s,rfl,-,-,-⟩:=id H.p;obtain⟨a9,b0,rfl,-⟩:=id H.f;obtain⟨U,V,e0,-,-,-⟩:=id H.o;obtain⟨l8,l9,rfl,-,-⟩:=id h1;obtain⟨u,b1⟩:=zx (c.pl.length:Nat);obtain⟨b2,b3⟩:=zx (c.fl.length:Nat);obtain⟨W,X⟩:=zx (L.length:Nat);have h4:h3= .slice U 0 V:=by rw[e0,hq.2.1];rfl
 subst h4;rw[hq.1,hq.2.2.2.1,hq.2.2.2.2,<-b1,<-b3,<-X];rw[<-X] at l4;have A:=zh (And.intro b1 (And.intro b3 X));clear hq g9 h0 H h2 b1 b3 X e0;show Qo _ _ #[_,.agg #[_,_,_,_,_,_,.string ⟨#[]⟩,_,_,_,_,_],_] _ _;go_enter func313,ntmps313;go_wp2_with fail;obtain⟨q,e1⟩:=zy w.heap.size;obtain⟨I,Y⟩:=zx (w.alloc (.cells #[.int .u64 c.gen,.int .u64 c.id,(c.now:Int),c.pn,.slice m u s,.slice a9 b2 b0,.string ⟨#[]⟩,.slice U 0 V,sv,(),(),ev] 382):Qm);have J:=zh (show Qr w.heap.size w I by rw[Y];exact ak _ _);have e2:=zh (show I.heap[q]?=some (.cells #[.int .u64 c.gen,.int .u64 c.id,(c.now:Int),c.pn,.slice m u s,.slice a9 b2 b0,.string ⟨#[]⟩,.slice U 0 V,sv,(),(),ev] 382) by rw[Y,e1];exact Nu _ _);rw[<-Y,<-e1];have Z:=zh (show aH I (.slice m u s) c.pl/\aE I (.slice a9 b2 b0) c.fl from⟨by have:=d9.p.below J;rw[<-A.1] at this;exact this,by have:=d9.f.below J;rw[<-A.2.1] at this;exact this⟩);clear Y;refine(kw (r:=nX c) Z.1 Z.2 a.1.plain.pol ⟨a.1.plain.now.1,a.1.plain.now.2⟩ a.2.1).mono ?_;rintro y e3 ⟨t,rfl,e4,b4⟩;obtain⟨B,K⟩:=zx I.heap.size;obtain⟨E,b5⟩:=zx e3.heap.size;rw[<-K,<-b5] at e4;have e5:=J.trans (b4.mono J.size);have b6:=zh (ab e2 b4);have h5:=Z.1.below b4;have a0:=zh (show w.heap.size<=B/\E=e3.heap.size/\q<B/\(∀j,aD (.slice m u s) j->j<B) from⟨by rw[K];exact J.size,b5,by rw[K];exact aa e2,λj d=>by rw[K];exact Gt Z.1 d⟩);clear K b5;obtain⟨b7,b8,b9,c1,c2,c3,c4,c5,c6,c7,c8,c9⟩:=bQ b6;have d0:=aa b6;clear b7 b8 b9 c1 c2 c3 c6 c7 c8 c9;go_wp2_with fail;refine zb (zC U V _) λe6 M=>?_
 have h6:=e4.below M;have B2:=e5.trans (M.mono e5.size);have h7:=zh (ab b6 M);have h8:=h5.below M;have E2:=zh (show E<=e6.heap.size by rw[a0.2.1];exact M.size);clear c4 c5 d0;go_wp2_with fail;go_loopw [47] (λi wr=> ∃(k:Nat),k<=W/\i= .int .i64 k/\Qs (dY wr B E t ⟨nX c,fb c.pl.length (L.take k)⟩)/\Qs (Ch (λj=>B<=j/\j<E) e6 wr)) (λi _=>W-(intOf i).toNat)
 case atStart=>exact⟨0,Nx _,rfl,h6,(Ch.refl _ _)⟩
 case round=>
  obtain⟨k,m0,rfl,e7,N⟩:=hrel;obtain⟨l,rfl⟩:=zx wr;have C:=zh (show Qr w.heap.size w l from B2.trans (N.below (λj d=>Nq a0.1 d.1) B2.size));have e8:=N.keep h7 λe=>by have:=a0.2.2.1;omega
  by_cases h9:k<W
  ·have e9:k<L.length:=by rw[<-A.2.2];exact h9
   obtain⟨D,O⟩: ∃D,L[k]?=some D:=⟨_,Np e9⟩;have d1:D∈L:=NO O;have f0:=l5 k D O;have d2:=h1.below C;rw[<-A.2.2] at d2;obtain⟨g,o,rfl,i0,f⟩:=d2.elem (λ_=>rfl) O;have d3:=f 0 _ rfl;have f1:=f 1 _ rfl;have f2:=f 2 _ rfl;have f3:=f 3 _ rfl;have f4:=f 4 _ rfl;have f5:=f 5 _ rfl;have f6:=f 6 _ rfl;rw[NR] at d3;have i1:=zh (show aH l (.slice m u s) c.pl from fa h8 N λj d e=>by have:=a0.2.2.2 j d;omega);have f7:=zh (And.intro O (And.intro d1 f0));obtain⟨j,d,d4⟩:=f0;have a1:=l3 D d1;have f8:=zh a1;obtain⟨a2,a3,f9,-,-⟩:=id a1.1;have d5:=a1.2;have m1:(j:Int)<5:=by have:=(aN a.1.plain.pol).1;have:=d4.1;omega
   have h:=zh d4;obtain⟨a4,m2,a5,g0,g1,m3,m4⟩:=D;dsimp only at d f9 d5 d3 f1 f2 f3 f4 f5 f6 f7 h f8;subst d;obtain⟨a6,a7,i2,-,-,-⟩:=id d5;subst i2 f9;clear e9 O d1 d2 f d4 d5 a1;obtain⟨b7,b8,b9,c1,c2,c3,c4,c5,c6,c7,c8,c9⟩:=bQ e8;have d0:=aa e8;clear b7 b8 b9 c3 c4 c5 c6 c7 c8 c9;have m5:=zi (5<=(j:Int));go_wp2_with fail;obtain⟨a8,d6⟩:=zx (l.alloc (.cells #[.int .u64 a4,(j:Int),(a5:Int),(),(1:Int),.slice a6 [g0].length a7,.slice a2 [g1].length a3] 340):Qm);have P:Qr l.heap.size l a8:=by rw[d6];exact ak _ _
   have d7:l.alloc (.cells #[.int .u64 a4,(j:Int),(a5:Int),(),(1:Int),.slice a6 1 a7,.slice a2 1 a3] 340)=a8:=d6.symm;rw[d7];have i3:=e7.below P;obtain⟨i4,i5,i6,ps,Q⟩:=i3;have R:=tC c.pl.length (L.take k);have g2:=(aN a.1.plain.pol).1
   have g3:=zG (w:=a8) (p:=⟨a4,j,a5,g0,g1,.slice a6 1 a7,.slice a2 1 a3⟩) (k:=j) (n:=c.pn) (pv:= .slice m u s) Q rfl (by rw[R];exact h.1) (by rw[R];exact g2) R (by have:=a.1.plain.now;unfold aQ;show _<=c.now/\c.now<=_;omega) (λz F=>by
    have F:z<c.pl.length:=by rw[<-R];exact F
    rw[Bh c _ F];have:=(Jf a.1.plain.pol F);unfold aQ;omega) h.2.1 (i1.below P) ((f8.1.below C).below P) h.2.2.1 h.2.2.2.1 (by rw[Bh c _ h.1];exact h.2.2.2.2.1) h.2.2.2.2.2
   refine g3.mono ?_;rintro y i7 ⟨rfl,g4,d8⟩;have i8:=zh (show dY i7 B E t ⟨nX c,fb c.pl.length (L.take (k+1))⟩ by rw[zK f7.1];exact g4);have i9:=zh ((N.trans (Ch.fresh P)).trans d8);have g5:a8.heap[l.heap.size]?=some (.cells #[.int .u64 a4,(j:Int),(a5:Int),(),(1:Int),.slice a6 1 a7,.slice a2 1 a3] 340):=by rw[<-d7];exact Nu _ _
   have g6:=d8.keep g5 λe=>by have:=E2.out;have:=N.size;omega
   have m6:=(dT g6).2.1;have m7:=aa g6;clear g5 P d6 d7 Q R g2 g3 g4 d8 c1 c2 d0 d3 f1 f2 f3 f4 f5 f6 i0;go_wp2_with fail;go_roundw
   case rel=>exact⟨k+1,zo,by go_num,i8,i9⟩
   case measure=>simp[intOf];omega
  ·have j0:k=W:=zo
   subst j0;have g7:=l1.below C;obtain⟨j1,j2,j3,j4,j5,j6,j7,j8,j9,k0,k1,k2,k3,k4⟩:=g7.cells;have k5:=aa g7.blk;clear j1 j2 j3 j4 j5 j6 j8 j9 k0 k1 k2 k3 k4;have g8:=e7.out;rw[NC (by rw[<-A.2.2];exact Nt _)] at g8;obtain⟨i4,i5,i6,ps,Q⟩:=g8;have k6:=zh Q;clear Q;go_wp2_with fail;refine(CP 26 k6 ⟨zd,zd⟩ a.1.plain.pol (by show c.fl.length<=5;rw[a.1.plain.fl.1];exact(aN a.1.plain.pol).1) (by show cz (fb _ _) (fb _ _).length<=26;rw[tC];exact a.2.2.2)).mono ?_;rintro y m8 ⟨b,rfl,k7,k8,k9⟩;have l0:=C.trans (k9.mono C.size);clear j7 k5;go_wp2;go_ret2;exact⟨b,rfl,by rw[A.1];exact k7,λz F=>Nq C.size (k8 z F),l0⟩
structure uB(d:DV)(c:bI)(rf:Int->ay):Prop where
 sr:d.srV= .tuple #[.agg #[.int .u64 c.gen,.int .i64 90,.int .i64 (c.bytes.length:Int)],.int .i64 0]
 blocks:d.blocks=90
 keep:d.keep= []
 size: ∀k,(d.read k).2=0->(d.read k).1.size=256
 size2: ∀k:Nat,(d.read k).1.size<=1000000
 quiet:c.quiet
 valid:c.valid
 short:c.short
 id:0<=c.id/\c.id<=1000000
 gen:c.gen<=1000000
 parsed:fR (dE c.pn c.pl) c.pn c.pl
 fit: ∀x∈c.es,x.fit
 one:1<=c.bytes.length/\c.bytes.length<=256
 cat:(d.read (rA c.gen)).2=0/\(d.read (rA c.gen)).1.extract 0 c.bytes.length=aO c.bytes
 len:c.es.length<=20
 segs: ∀e∈c.es,(38<=e.blk/\e.blk<90)/\fJ e.id e.tier e.shard/\(rf e.blk).good/\d.read e.blk=(aO (fs e.id e.tier e.shard 0 1 [rf e.blk]),0)
 floors:iM c.pl c.fl
 parts: ∀L:List aA,L.map aA.key4=c.es.map bj.key->(∀p∈L,p.r=rf p.blk)->(∀k p,L[k]?=some p->rB c L k p)/\cz (fb c.pl.length L) c.pl.length<=26/\(L.map aA.key).Nodup/\ ∀k p,L[k]?=some p->iw (dm (L.take k)) (fZ p.tier) [p.blk]
 log:Ef d 2 16 c.gen= []/\jN d 2 16=0
def uC{a:Func}{t u v z:Tmp}(c:a.results=#[.tmp t,.tmp u,.tmp v,.tmp z])(tmps:Array Qn)(P:Program)(w:Qm):
 (results a tmps).run P w= .ok (.tuple #[tmps.getD t undef,tmps.getD u undef,tmps.getD v undef,tmps.getD z undef]) w:=by
 simp[results,c]
structure MD(w:Qm)(B dp cc:Nat)(d:DV)(c:bI)(rf:Int->ay)(x:Nat)(b:SB)(L:List aA)(S:aM)(w':Qm):Prop where
 sto:bD w' x [] 80 S
 dsk:S.dp=dp/\S.B=B/\S.c=cc/\S.d=d/\S.gen=c.gen/\S.id=c.id/\S.ps=L/\S.lg=none/\S.bad=0/\S.V.pure=dm L
 keys:L.map aA.key4=c.es.map bj.key
 recs: ∀p∈L,p.r=rf p.blk
 st:bJ w' b ⟨26,⟨nX c,fb c.pl.length L⟩,none⟩
 ap: ∀k,b.own k-> ¬(S.ext x k\/cL w' S.dp k)
 ge: ∀k,S.ext x k\/b.own k->w.heap.size<=k
 own: ∀k,cL w' S.dp k->cL w dp k\/w.heap.size<=k
 ch:Ch (cL w dp) w w'
def Kz(w:Qm)(B dp f:Nat)(d:DV)(c:bI)(rf:Int->ay)(e:Qq)(w':Qm):Prop:=
 ∃x b L S a n,e= .returned (.tuple #[.pointer (some ⟨x,0,none⟩),.pointer (some ⟨b.s,0,none⟩),.slice a 0 n,.int .i64 0])/\Qs (MD w B dp f d c rf x b L S w')
def Du{B dp Q:Nat}{B0:Nat}{w:Qm}{d:DV}{c:bI}{m:Int}{rf:Int->ay}(p4:cl B0 w)(Z:w.cell? ⟨0,0,none⟩=some (.int .i64 m))(p5:0<w.heap.size)(p6:bg w B dp Q d)(p7:uB d c rf):Qo zP 242 #[dp] w (Kz w B dp Q d c rf):=by
 have a6:=zh (And.intro p4 (And.intro Z p5));have d3:=zh p6;have l:=zh p7;clear p4 Z p5 p6 p7;go_enter func242,ntmps242;go_wp2_with fail;refine zb (BU d3.out (by rw[l.out.blocks];decide) l.out.size2) λd4 h6=>?_
 rw[l.out.sr];have p8:=d3.out.step h6;have h7:=zh h6;obtain⟨n,a7⟩: ∃y:Nat,y=c.bytes.length:=⟨_,rfl⟩;rw[<-a7];have l5:=zh a7;clear h6 a7;go_wp2_with fail;obtain⟨h8,a8⟩: ∃y,y=d4.heap.size:=⟨_,rfl⟩;obtain⟨h9,d5⟩: ∃I:Qm,I=d4.alloc (.cells #[.int .u64 c.gen,(90:Int),(n:Int)] 349):=⟨_,rfl⟩;have i0:Qr d4.heap.size d4 h9:=by rw[d5];exact ak _ _
 have l6:h9.heap[h8]?=some (.cells #[.int .u64 c.gen,(90:Int),(n:Int)] 349):=by rw[d5,a8];exact Nu _ _
 rw[<-d5,<-a8];have B2:=h7.out.trans (i0.mono h7.out.size);have p9:=zh l6;have q0:=p8.step i0;have i1:=zh (show w.heap.size<=h8 by rw[a8];exact h7.out.size);clear d5 a8 i0 l6;refine zb (jJ 90 h9 (by decide)) λd6 d7=>?_
 rw[show pa 90= .agg #[(90:Int),(2:Int),(18:Int),(28:Int),(10:Int),(38:Int),(26:Int)] from rfl];have i2:=B2.trans (d7.mono B2.size);have q1:=zh (ab p9.out d7);have q2:=q0.step d7;clear d7;go_wp2_with fail;obtain⟨R,d8⟩: ∃y,y=d6.heap.size:=⟨_,rfl⟩;obtain⟨d9,e0⟩: ∃I:Qm,I=d6.alloc (.cells #[(90:Int),(2:Int),(18:Int),(28:Int),(10:Int),(38:Int),(26:Int)] 75):=⟨_,rfl⟩;have e1:Qr d6.heap.size d6 d9:=by rw[e0];exact ak _ _
 have l7:d9.heap[R]?=some (.cells #[(90:Int),(2:Int),(18:Int),(28:Int),(10:Int),(38:Int),(26:Int)] 75):=by rw[e0,d8];exact Nu _ _
 rw[<-e0,<-d8];have U:=i2.trans (e1.mono i2.size);have a9:=zh (And.intro (ab q1.out e1) l7);have q3:=zh (show w.heap.size<=R by rw[d8];exact i2.size);have q4:=q2.step e1;clear e0 d8 e1 l7;have i3:=rn q4 l.out.keep;rw[show pa 90= .agg #[(90:Int),(2:Int),(18:Int),(28:Int),(10:Int),(38:Int),(26:Int)] from rfl] at i3;refine i3.mono ?_;rintro y W ⟨x,pm,bk,V,rfl,b0,b1,e2,q5,l8,l9⟩;obtain⟨S0,e3⟩: ∃y:aM,y=⟨dp,B,Q,d,0,0,[],pm,bk,V,none,0⟩:=⟨_,rfl⟩;have b2:=zh (show bD W x [] 80 S0 by rw[e3];exact b0);have m0:S0.d=d/\S0.dp=dp/\S0.B=B/\S0.c=Q/\S0.ps= []/\S0.lg=none/\S0.bad=0/\S0.V.pure=dm []:=by rw[e3];exact⟨rfl,rfl,rfl,rfl,rfl,rfl,rfl,b1⟩
 have t:=zh m0;have X:=U.trans (e2.mono U.size);have e4:=zh (And.intro (ab a9.out.1 e2) (ab a9.out.2 e2))
 have A:=zh (show h8<x/\R<x/\(∀k,S0.ext x k->d9.heap.size<=k) from⟨by have:=aa a9.out.1;omega,by have:=aa a9.out.2;omega,λk f=>by
  rw[e3] at f;rcases f with f|f|f|f
  ·omega
  ·exact l9 k f
  ·rcases f with f|⟨p,r,-⟩
   ·rw[f];exact l8
   ·cases r
  ·obtain⟨z,J,-⟩:=f;cases J⟩)
 clear b0 b1 e2 q5 l8 l9 e3 m0 i3;obtain⟨q6,i4,i5⟩:=aW e4.out.1;have q7:=aa e4.out.1;go_wp2_with fail;have i6:=No a6.out.2.2 X.size;rw[l5.out];refine(zf (a6.out.1.step (X.mono a6.out.1.1)) ((X.cell (p:=⟨0,0,none⟩) a6.out.2.2).trans a6.out.2.1) i6 b2.out l.out.quiet l.out.valid l.out.short l.out.id l.out.parsed l.out.fit l.out.one (by rw[t.out.1];exact l.out.cat.1) (by rw[t.out.1];exact l.out.size _ l.out.cat.1) (by rw[t.out.1];exact l.out.cat.2)).mono ?_;rintro y e5 ⟨v,es,rfl,f,q8,m1,K⟩;rw[<-l5.out];obtain⟨pv,u1,u2,sv,ev,rfl,m2,q9⟩:=q8;have M:=zh m2;have Y:=zh (And.intro f m1);have m3:=X.trans (K.mono X.size);have m4:=zh (And.intro (ab e4.out.1 K) (ab e4.out.2 K));have r0:=b2.out.below K;have r1:=zh K.size;have r2:=zh K;clear i6 f m1 m2 q9 K q6 i4 i5 q7;obtain⟨e6,e7,rfl,-,-,-⟩:=id M.out.p;obtain⟨e8,e9,rfl,-⟩:=id M.out.f;obtain⟨f0,f1,rfl,-,-,-⟩:=id M.out.o;obtain⟨f2,f3,rfl,-⟩:=id M.out.s;obtain⟨f4,f5,rfl,-,-⟩:=id M.out.e.1;dsimp only at M⊢
 go_upto_region 9 with(fail)
 obtain⟨m5,f6⟩: ∃y,y=e5.heap.size:=⟨_,rfl⟩;obtain⟨f7,f8⟩: ∃I:Qm,I=e5.alloc (.cells #[.int .u64 c.gen,.int .u64 c.id,(c.now:Int),c.pn,.slice e6 c.pl.length e7,.slice e8 c.fl.length e9,c.tn,.slice f0 c.tl.length f1,.slice f2 c.src.length f3,(c.bound:Int),(c.done:Int),.slice f4 es.length f5] 382):=⟨_,rfl⟩;have N:Qr e5.heap.size e5 f7:=by rw[f8];exact ak _ _
 have m6:f7.heap[m5]?=some (.cells #[.int .u64 c.gen,.int .u64 c.id,(c.now:Int),c.pn,.slice e6 c.pl.length e7,.slice e8 c.fl.length e9,c.tn,.slice f0 c.tl.length f1,.slice f2 c.src.length f3,(c.bound:Int),(c.done:Int),.slice f4 es.length f5] 382):=by rw[f8,f6];exact Nu _ _
 rw[<-f8,<-f6];have m7:=m3.trans (N.mono m3.size);have b3:=zh (And.intro (ab m4.out.1 N) (And.intro (ab m4.out.2 N) m6));have m8:=r0.below N;have m9:=zh (show fL f7 (.agg #[.int .u64 c.gen,.int .u64 c.id,(c.now:Int),c.pn,.slice e6 c.pl.length e7,.slice e8 c.fl.length e9,c.tn,.slice f0 c.tl.length f1,.slice f2 c.src.length f3,(c.bound:Int),(c.done:Int),.slice f4 es.length f5]) {c with es:=es} from⟨_,_,_,_,_,rfl,M.out.below N⟩);have i7:=ai r2.out N;have u3:=zh (show W.heap.size<=m5 by rw[f6];exact r1.out);clear f8 f6 N m6;obtain⟨b4,b5,b6,b7,b8,b9,c1,c2,c3,c4,c5,c6⟩:=bQ b3.out.2.2;have c7:=aa b3.out.2.2;go_wp2_with fail;have i8:es.length=c.es.length:=by have:=Of List.length Y.out.1;simpa using this
 refine(Dt (rf:=rf) m8 m9.out (by show es.length<=20;rw[i8];exact l.out.len) (λe i9=>by
  have Z:e.key∈c.es.map bj.key:=by rw[<-Y.out.1];exact Pc i9
  obtain⟨c8,r3,f9⟩:=OI.1 Z;have h:=l.out.segs c8 r3;have a0:c8.id=e.id:=Of (·.1) f9;have r4:c8.tier=e.tier:=Of (·.2.1) f9;have r5:c8.shard=e.shard:=Of (·.2.2.1) f9;have r6:c8.blk=e.blk:=Of (·.2.2.2) f9;rw[a0,r4,r5,r6] at h;rw[t.out.1];exact h)).mono ?_
 rintro y g0 ⟨pv,L,rfl,a1,g1,E⟩;have g1:pF f7 g0 L es rf:=g1;have C:=zh g1;have j0:=zh a1;have n0:=m7.trans (E.mono m7.size);have c9:=zh (And.intro (ab b3.out.1 E) (And.intro (ab b3.out.2.1 E) (ab b3.out.2.2 E)));have n1:=m8.below E;have r7:=zh (show fL g0 (.agg #[.int .u64 c.gen,.int .u64 c.id,(c.now:Int),c.pn,.slice e6 c.pl.length e7,.slice e8 c.fl.length e9,c.tn,.slice f0 c.tl.length f1,.slice f2 c.src.length f3,(c.bound:Int),(c.done:Int),.slice f4 es.length f5]) {c with es:=es} from by obtain⟨i4,i5,r8,r9,s0,h,g⟩:=m9.out;exact⟨i4,i5,r8,r9,s0,h,g.below E⟩);obtain⟨n2,n3,rfl⟩:=az a1;obtain⟨n4,j1⟩: ∃y:Nat,y=L.length:=⟨_,rfl⟩;rw[<-j1] at j0⊢;have n5:=zh j1;have u4:=zh i8;have u5:=zh E.size;have g2:=ai i7 E;clear a1 g1 E j1 i8 b4 b5 b6 b7 b8 b9 c1 c2 c3 c4 c5 c6 c7;obtain⟨b4,b5,b6,b7,b8,b9,c1,c2,c3,c4,c5,c6⟩:=bQ c9.out.2.2;have c7:=aa c9.out.2.2;go_wp2_with fail;have j2:L.map aA.key4=c.es.map bj.key:=C.out.key.trans Y.out.1;have g3:=l.out.parts L j2 C.out.recs;have j3:=zh g3;have j4:=j0.out;rw[n5.out] at j4;have g4:=(aB.own (k:=7) (enc:=aA.cells) j4).1;rw[<-n5.out] at g4;have s1:=zh g4;have j5:L.length<=20:=by have h:=Of List.length j2;simp only[OC] at h;rw[h];exact l.out.len
 have s2:=zh j5;refine(zM n1 r7.out (show({c with es:=es}:bI).quiet from l.out.quiet) (wT Y.out.1 l.out.valid).1 l.out.floors g4 C.out.rows j5 g3.1 g3.2.1).mono ?_;rintro y s ⟨b,rfl,b0,n6,u⟩;have g5:=n1.below u;have n7:=zh (show bJ s b ⟨26,⟨nX c,fb c.pl.length L⟩,none⟩ from b0);have s3:=zh n6;have F:=n0.trans (u.mono n0.size);have g6:=zh (And.intro (ab c9.out.1 u) (And.intro (ab c9.out.2.1 u) (ab c9.out.2.2 u)));have g7:=zh (And.intro (s1.out.below u) (λp r=>(⟨(C.out.rows p r).1.below u,(C.out.rows p r).2.below u⟩:aB 7 ay.cells s p.rv [p.r]/\aE s p.bv [p.blk])));have s4:=zh u.size;have n8:=ai g2 u;clear j2 g3 j4 g4 j5 b0 n6 u b4 b5 b6 b7 b8 b9 c1 c2 c3 c4 c5 c6 c7;obtain⟨b4,b5,b6,b7,b8,b9,c1,c2,c3,c4,c5,c6⟩:=bQ g6.out.2.2;have c7:=aa g6.out.2.2;obtain⟨j6,j7,j8,j9,k0,k1,k2,k3,g8,k4,k5,k6,k7,k8⟩:=g5.cells;have k9:=aa g5.blk;have s5:=λo=>ad (o:=o) g5.blk
 clear j6 j7 j8 j9 k0 k1 k2 k3 k5 k6 k7 k8 b6 b7 b8 b9 c1 c2 c3 c4 c5 c6
 go_upto_region 17 with(fail)
 go_region;obtain⟨g9,l0⟩: ∃I:Qm,I=((s.setCell ⟨x,8,none⟩ (.int .u64 c.gen)).setCell ⟨x,9,none⟩ (.int .u64 c.id)).drew:=⟨_,rfl⟩;obtain⟨S1,d0⟩: ∃y:aM,y={S0 with gen:=c.gen,id:=c.id,bad:=S0.bad}:=⟨_,rfl⟩
 have n9:bz s x [] 80 S0 g9 S1:=by
  have h:=g5.setc (i:=8) (y:= .int .u64 c.gen) c.gen S0.id S0.bad rfl;have g:=h.at_.setc (i:=9) (y:= .int .u64 c.id) c.gen c.id S0.bad rfl;rw[l0,d0];exact(h.trans g).fresh zr.drew
 have O:=zh n9
 have a2: ∀k,W.heap.size<=k-> ¬S0.fr s x k:=λk f e=>by
  have h:=b2.out.fr_lt (b2.out.fr_below n8 e);omega
 have h0: ∀k,W.heap.size<=k->k<s.heap.size-> ¬S1.fr g9 x k:=λk f s6=>(O.out.out_ s6 (a2 k f)).2
 rw[<-l0]
 have a3: ∀p∈L,∀k,aD p.rv k\/aD p.bv k->W.heap.size<=k/\k<s.heap.size:=λp r k f=>by
  refine⟨?_,gH (g7.out.2 p r) f⟩;rcases f with f|f
  ·have h:=C.out.ge p r k f
   have g:=i7.size;omega
  ·have Z:p.bv∈es.map bj.bv:=by rw[<-C.out.bv];exact Pc r
   obtain⟨e,i9,h⟩:=OI.1 Z;exact Y.out.2 e i9 k (by rw[h];exact f)
 have h1: ∀k,aD (.slice n2 n4 n3) k->W.heap.size<=k/\k<s.heap.size:=λk f=>by
  obtain⟨h,g,-⟩:=ar j0.out (cJ f);have h2:=i7.size;have u6:=s4.out;exact⟨by omega,by omega⟩
 have h3:Ch (S0.fr s x) s g9:=O.out.ch;have d0:=d0;have o0:S1.ps= []/\S1.d=d/\S1.dp=dp/\S1.lg=none/\S1.bad=0/\S1.gen=c.gen/\S1.id=c.id/\S1.c=Q/\S1.B=B:=by rw[d0];exact⟨t.out.2.2.2.2.1,t.out.1,t.out.2.1,t.out.2.2.2.2.2.1,t.out.2.2.2.2.2.2.1,rfl,rfl,t.out.2.2.2.1,t.out.2.2.1⟩
 have a4:=zh o0
 have o1:=ti (w:=g9) (q:=x) (rest:= []) (T:=80) (S:=S1) (pv:= .slice n2 n4 n3) (L:=L) O.out.at_ (g7.out.1.ch h3 λk f e=>a2 k (h1 k f).1 e) (λk f=>h0 k (h1 k f).1 (h1 k f).2) ⟨λp r=>⟨(g7.out.2 p r).1.ch h3 λk f e=>a2 k (a3 p r k (.inl f)).1 e,(g7.out.2 p r).2.ch_ h3 λk f e=>a2 k (a3 p r k (.inr f)).1 e⟩,λp r k f=>h0 k (a3 p r k f).1 (a3 p r k f).2,j3.out.2.2.1,λp r=>by
  obtain⟨k,f⟩:=PG r;obtain⟨j,h,g,-,h2,-⟩:=j3.out.1 k p f;have:=(aN l.out.valid.plain.pol).1;unfold aQ;omega,j3.out.2.2.2⟩ s2.out
 have s7:=zh o1;have u7:=zh h0;have s8:=zh a2;have s9:=zh a3;clear n9 l0 a2 h0 a3 h1 h3 d0 o0 o1 b4 b5 c7 g8 k4 k9 s5;go_wp2_with fail;refine s7.out.mono ?_;rintro y P ⟨o2,t0,t1,rfl,l1,b1,o3,o4⟩;obtain⟨S2,h4⟩: ∃y:aM,y={S1 with ps:=L,pm:=o2,bk:=t0,V:=t1}:=⟨_,rfl⟩;rw[<-h4] at l1;have d1:=zh l1;have d2:=zh (And.intro h4 (And.intro b1 (And.intro o3 o4)))
 have l2: ∀k,w.heap.size<=k->k≠x->k<d9.heap.size-> ¬S0.fr s x k:=λk h g h2 e=>by
  rcases e with e|e|e|e
  ·exact g e
  ·rw[t.out.2.1] at e
   exact ko d3.out F h e
  ·have:=A.out.2.2 k (.inr (.inl e));omega
  ·have:=A.out.2.2 k (.inr (.inr (.inr e)));omega
 have l3:P.heap[R]?=some (.cells #[(90:Int),(2:Int),(18:Int),(28:Int),(10:Int),(38:Int),(26:Int)] 75):=by
  have h5:=aa g6.out.2.1;have h: ¬S0.fr s x R:=l2 R q3.out (by have:=A.out.2.1;omega) (aa a9.out.2);have g:=O.out.out_ h5 h;have h2:=d1.out.out_ (No h5 O.out.ch.size) g.2;exact h2.1.trans (g.1.trans g6.out.2.1)
 have o5:=zh l3;have u8:=zh l2
 have o6:bg P B dp Q d:=by
  have h:=d1.out.at_.disk;have a0:S2.B=B/\S2.dp=dp/\S2.c=Q/\S2.d=d:=by rw[h4];exact⟨a4.out.2.2.2.2.2.2.2.2,a4.out.2.2.1,a4.out.2.2.2.2.2.2.2.1,a4.out.2.1⟩
  rw[a0.1,a0.2.1,a0.2.2.1,a0.2.2.2] at h;exact h
 have t2:=zh o6;clear l1 h4 b1 o3 o4 l2 l3 o6;obtain⟨-,t3,-,-,-,-,-⟩:=dT o5.out;have h5:=aa o5.out;obtain⟨j6,j7,j8,j9,k0,k1,k2,k3,g8,k4,k5,k6,k7,k8⟩:=d1.out.at_.cells;have o7:S2.gen=c.gen:=by rw[d2.out.1];exact a4.out.2.2.2.2.2.1
 rw[o7] at g8;have k9:=aa d1.out.at_.blk;clear j6 j7 j8 j9 k0 k1 k2 k3 k4 k5 k6 k7 k8 o7;go_wp2_with fail;go_region_with (refine(Cg 2 c.gen 16 (t2.out.step (show Qr P.heap.size P P.drew from zr.drew)) (by have:=l.out.valid.plain.gen;omega) (by decide) (by decide) l.out.size).mono ?_;rintro y o8 ⟨t4,rfl,a1,o9⟩;have t5:=zh (show Qr P.heap.size P o8 from ec o9);have t6:=zh a1;clear a1 o9;rw[l.out.log.2])
 all_goals
  have t7: ∃a n,t4= .slice a 0 n:=by
   have h:=t6.out;rw[l.out.log.1] at h;obtain⟨a,n,g⟩:=az h;exact⟨a,n,g⟩
  obtain⟨t8,t9,rfl⟩:=t7;clear t3 h5 g8 k9;go_wp2;have H:=(O.out.trans d1.out).fresh t5.out;have a5:=d2.out.1;have D:=a4.out;have u9:=n8.size;have i6:=X.size;have p0: ∀k,S2.fr o8 x k->S0.fr s x k\/s.heap.size<=k:=H.own
  have p1: ∀k,S2.ext x k->w.heap.size<=k/\(k<g0.heap.size\/s.heap.size<=k):=λk f=>by
   have v0:=aa b2.out.blk;have v1:=A.out.1;have a8:=i1.out;have v2:=O.out.ch.size;have l3:=g2.size;rcases f with f|f|f|f
   ·exact⟨by omega,.inl (by omega)⟩
   ·rw[a5] at f
    have:=d2.out.2.2.2 k f;exact⟨by omega,.inr (by omega)⟩
   ·rcases f with f|⟨p,r,f⟩
    ·rw[a5] at f
     have:=d2.out.2.2.1;have f:k=o2:=f;exact⟨by omega,.inr (by omega)⟩
    ·rw[a5] at r
     have r:p∈L:=r;have h:=(s9.out p r k f).1;have g:=gH (C.out.rows p r) f;exact⟨by omega,.inl g⟩
   ·obtain⟨z,J,-⟩:=f
    rw[a5] at J;have J:z∈S1.lg:=J;rw[D.2.2.2.1] at J;cases J
  have l4: ∀k,b.own k->g0.heap.size<=k/\k<s.heap.size:=λk f=>⟨s3.out k f,n7.out.lt f⟩
  have p2: ∀k,b.own k-> ¬S0.fr s x k:=λk f=>s8.out k (by have:=(l4 k f).1;have:=g2.size;omega)
  have v3:S2.dp=dp:=by rw[a5];exact D.2.2.1
  have p3:=(d3.out.ch_ l.out.keep (Ch.fresh F:Ch (λ_=>False) w s) λk f e=>e).2;have u0: ∀k,cL s dp k->cL w dp k\/w.heap.size<=k:=λk f=> .inl ((p3 k).1 f)
  refine NG (uC rfl _ _ _) rfl ⟨x,b,L,S2,t8,t9,rfl,H.at_,?_,C.out.key.trans Y.out.1,C.out.recs,n7.out.ch H.ch p2,λk f e=>?_,λk f=>?_,λk f=>?_,?_⟩
  ·rw[a5]
   exact⟨D.2.2.1,D.2.2.2.2.2.2.2.2,D.2.2.2.2.2.2.2.1,D.2.1,D.2.2.2.2.2.1,D.2.2.2.2.2.2.1,rfl,D.2.2.2.1,D.2.2.2.2.1,d2.out.2.1⟩
  ·have h:=l4 k f
   rcases e with e|e
   ·rcases(p1 k e).2 with g|g<;>omega
   ·rcases p0 k (.inr (.inl e)) with g|g
    ·exact p2 k f g
    ·omega
  ·rcases f with f|f
   ·exact(p1 k f).1
   ·have h:=(l4 k f).1
    have g:=g2.size;omega
  ·rcases p0 k (.inr (.inl f)) with g|g
   ·rcases g with g|g|g|g
    ·right
     have:=A.out.1;have:=i1.out;omega
    ·rw[t.out.2.1] at g
     exact u0 k g
    ·have:=A.out.2.2 k (.inr (.inl g));have:=U.size;right;omega
    ·have:=A.out.2.2 k (.inr (.inr (.inr g)));have:=U.size;right;omega
   ·right;have:=F.size;omega
  ·refine⟨H.ch.os.trans F.os,H.ch.tape.trans F.tape,H.ch.output.trans F.output,Nq F.size H.ch.size,λk f a7=>(H.ch.block k (No f F.size) λe=>?_).trans (F.block k f)⟩
   rcases e with e|e|e|e
   ·have:=A.out.1
    have:=i1.out;omega
   ·rw[t.out.2.1] at e
    exact a7 ((p3 k).1 e)
   ·have:=A.out.2.2 k (.inr (.inl e));have:=U.size;omega
   ·have:=A.out.2.2 k (.inr (.inr (.inr e)));have:=U.size;omega
end Go.Proofs.YtdflhgceeloijaaGreatDoor
