import Derived.Test.YtdflhgceeloijaaGreatDoorZ1
import Derived.Test.YtdflhgceeloijaaGreatDoorZ8
import Derived.Deep.DeepCutAuto
set_option linter.all false
set_option maxRecDepth 100000
set_option maxHeartbeats 16000000
namespace Go.Proofs.YtdflhgceeloijaaGreatDoor
open Go Go.RowKit Tryz
open Tryz renaming prog→zP
open Go renaming World→Qm,Value→Qn,Calls→Qo,TypeId→Qp,Ending→Qq
open Go.RowKit renaming Below→Qr,Hid→Qs
structure hV where
 text:ByteArray
 line:Int
 col:Int
def hV.cells(x:hV):List Qn:= [.string x.text,.int .i64 x.line,.int .i64 x.col]
structure nY where
 out:List hV
 line:Int
 col:Int
 beg:Int
def Gu(s:ByteArray)(i:Nat):Nat:=if h:i<s.size then s[i].toNat else 10
def cF(s:ByteArray)(i:Nat)(S:nY):nY:=
 let c:=Gu s i
 let S1:nY:=if c<=32 then(if 0<=S.beg then{S with out:=S.out++ [⟨s.extract S.beg.toNat i,S.line,S.col-(i-S.beg)⟩],beg:= -1} else S) else(if S.beg<0 then{S with beg:=i} else S)
 if c=10 then{S1 with line:=S.line+1,col:=1} else{S1 with col:=S.col+1}
def cd(s:ByteArray):Nat->nY
 |0=>⟨[],1,1,-1⟩
 |i+1=>cF s i (cd s i)
def uD(s:ByteArray):Prop:= ∀i,(h:i<s.size)->s[i].toNat=10\/s[i].toNat=32\/(33<=s[i].toNat/\s[i].toNat<=126/\s[i].toNat≠35)
def rC:(zP.info? 208).map (λi=>(i.zero,i.size,i.bytes))=some (some (.agg #[ByteArray.empty,(),()]),3,32):=zk
def wU(s:ByteArray): ∀i:Nat,(1<=(cd s i).line/\(cd s i).line<=i+1)/\(1<=(cd s i).col/\(cd s i).col<=i+1)/\(-1<=(cd s i).beg/\(cd s i).beg<=i-1)/\(cd s i).out.length<=i
 |0=>by simp[cd]
 |i+1=>by
  obtain⟨⟨a,c⟩,⟨e,f⟩,⟨g,h⟩,d⟩:=wU s i;unfold cd cF;dsimp only
  (repeat' split)<;>(refine⟨⟨?_,?_⟩,⟨?_,?_⟩,⟨?_,?_⟩,?_⟩<;>(try simp only[Nw,NS])<;>omega)
def Jg(w:Qm)(l:List hV)(x:Qq)(w':Qm):Prop:= ∃v,x= .returned (.tuple #[v,(),()])/\Qs (w'.ownsRow w.heap.size 208 3 v l.length (l.flatMap hV.cells))/\Qs (Qr w.heap.size w w')
def Gv{s:ByteArray}{w:Qm}(c9:s.size<=4000)(c4:Qs (uD s)):Qo zP 117 #[s] w (Jg w (cd s (s.size+1)).out):=by
 have c5: ¬(4000<(s.size:Int)):=by omega
 go_enter func117,ntmps117;go_wp2_with fail;go_loopw [5,6,7,8,9,10] (λv a b c d i wr=> ∃(k:Nat),k<=s.size+1/\i= .int .i64 k/\a= .int .i64 (cd s k).line/\b= .int .i64 (cd s k).col/\c= .int .i64 (cd s k).beg/\d= .bool false/\Qs (wr.ownsRow w.heap.size 208 3 v (cd s k).out.length ((cd s k).out.flatMap hV.cells))/\Qs (Qr w.heap.size w wr)) (λ_ _ _ _ _ i _=>s.size+1-(intOf i).toNat)
 case atStart=>exact⟨0,by omega,rfl,rfl,rfl,rfl,rfl,zh zw,zh zr⟩
 case round=>
  obtain⟨k,c6,rfl,rfl,rfl,rfl,rfl,n,o⟩:=hrel;obtain⟨va,vc,rfl⟩:=az n.out;obtain⟨⟨a9,b0⟩,⟨b1,b2⟩,⟨b3,b4⟩,X⟩:=wU s k;obtain⟨f,r⟩:=zy (cd s k:nY);rw[<-r] at a9 b0 b1 b2 b3 b4 X n;rw[<-r];by_cases Y:k<s.size
  ·have q:=c4.out k Y
   have I:Gu s k=s[k].toNat:=by unfold Gu;rw[dif_pos Y]
   have E:=zh I;have b5:k<=4000:=by omega
   clear I;by_cases H:0<=f.beg
   ·rcases q with q|q|q
    ·have h:=zh (show cd s (k+1)=(⟨f.out++ [⟨s.extract f.beg.toNat k,f.line,f.col-((k:Int)-f.beg)⟩],f.line+1,1,-1⟩:nY) by show cF s k (cd s k)=_;rw[<-r.out];unfold cF;rw[E.out];simp[q,H])
     have Z:(s[k].toNat:Int)=10:=by omega
     obtain⟨J,K,L,M,N⟩:=info_parts rC;have a0:f.beg<=(k:Int):=by omega
     have a1:(k:Int)<=(s.size:Int):=by omega
     obtain⟨p,t⟩: ∃y:ByteArray,y=s.extract f.beg.toNat k:=⟨_,rfl⟩;have a2:s.extract f.beg.toNat k=p:=t.symm;obtain⟨u,A⟩: ∃y:Nat,y=f.out.length:=⟨_,rfl⟩;rw[<-A] at X⊢;have B:=zh A;have O:=zh t;have a3:u<=4001:=by omega
     clear A t;go_wp2_with (at_builtin;refine bb (enc:=hV.cells) rfl _ _ 204 rfl w.heap.size 208 J _ 32 underlying204 K L M N rfl (by decide) _ _ u _ [hV.mk p f.line (f.col-((k:Int)-f.beg))] rfl (by rw[B.out];exact aZ n.out λg P=>ze.block g (ar n.out P).2.1) rfl (bC 3 (c:=1) (l:= [hV.mk p f.line (f.col-((k:Int)-f.beg))]) (ag (by simp)) rfl ⟨Nt 1,by decide⟩) (λ_=>rfl) ?qc1 ?qc2 (by decide) ?qc3 ?_)
     case qc1=>intro x Q y F;obtain rfl:=Nz.1 Q;simp only[hV.cells,NL,NJ,Ou] at F;rcases F with rfl|rfl|rfl<;>rfl
     case qc2=>show(u+1)*32<140737488355328;omega
     case qc3=>have:=o.out.size;simp;omega
     intro a4 R C m S
     have T:=zh (show Qr w.heap.size w R by
      have D:=aI o.out (ak wr (.cells #[p,(f.line:Int),(f.col-((k:Int)-f.beg):Int)] 208)) o.out.size;exact D.trans ⟨m.os,m.tape,m.output,m.size,λj U=>m.block j (No U D.size) λe=>by have:=(ar n.out (g:=j) (by rw[<-B.out];exact e.symm)).1;omega⟩)
     have V:=zh C;obtain⟨a5,a6,rfl⟩:=az C;clear C m S;go_wp2_with fail;rw[<-O.out] at h;refine⟨⟨k+1,by omega,rfl,by rw[h.out],by rw[h.out],by rw[h.out],rfl,?_,T⟩,by simp only[intOf];omega⟩;rw[h.out];refine zh ?_;have W:=V.out;simp only[Nw,NS,NK,<-B.out];simpa using W
    ·have h:=zh (show cd s (k+1)=(⟨f.out++ [⟨s.extract f.beg.toNat k,f.line,f.col-((k:Int)-f.beg)⟩],f.line,f.col+1,-1⟩:nY) by show cF s k (cd s k)=_;rw[<-r.out];unfold cF;rw[E.out];simp[q,H])
     have Z:(s[k].toNat:Int)=32:=by omega
     obtain⟨J,K,L,M,N⟩:=info_parts rC;have a0:f.beg<=(k:Int):=by omega
     have a1:(k:Int)<=(s.size:Int):=by omega
     obtain⟨p,t⟩: ∃y:ByteArray,y=s.extract f.beg.toNat k:=⟨_,rfl⟩;have a2:s.extract f.beg.toNat k=p:=t.symm;obtain⟨u,A⟩: ∃y:Nat,y=f.out.length:=⟨_,rfl⟩;rw[<-A] at X⊢;have B:=zh A;have O:=zh t;have a3:u<=4001:=by omega
     clear A t;go_wp2_with (at_builtin;refine bb (enc:=hV.cells) rfl _ _ 204 rfl w.heap.size 208 J _ 32 underlying204 K L M N rfl (by decide) _ _ u _ [hV.mk p f.line (f.col-((k:Int)-f.beg))] rfl (by rw[B.out];exact aZ n.out λg P=>ze.block g (ar n.out P).2.1) rfl (bC 3 (c:=1) (l:= [hV.mk p f.line (f.col-((k:Int)-f.beg))]) (ag (by simp)) rfl ⟨Nt 1,by decide⟩) (λ_=>rfl) ?qc1 ?qc2 (by decide) ?qc3 ?_)
     case qc1=>intro x Q y F;obtain rfl:=Nz.1 Q;simp only[hV.cells,NL,NJ,Ou] at F;rcases F with rfl|rfl|rfl<;>rfl
     case qc2=>show(u+1)*32<140737488355328;omega
     case qc3=>have:=o.out.size;simp;omega
     intro a4 R C m S
     have T:=zh (show Qr w.heap.size w R by
      have D:=aI o.out (ak wr (.cells #[p,(f.line:Int),(f.col-((k:Int)-f.beg):Int)] 208)) o.out.size;exact D.trans ⟨m.os,m.tape,m.output,m.size,λj U=>m.block j (No U D.size) λe=>by have:=(ar n.out (g:=j) (by rw[<-B.out];exact e.symm)).1;omega⟩)
     have V:=zh C;obtain⟨a5,a6,rfl⟩:=az C;clear C m S;go_wp2_with fail;rw[<-O.out] at h;refine⟨⟨k+1,by omega,rfl,by rw[h.out],by rw[h.out],by rw[h.out],rfl,?_,T⟩,by simp only[intOf];omega⟩;rw[h.out];refine zh ?_;have W:=V.out;simp only[Nw,NS,NK,<-B.out];simpa using W
    ·have h:=zh (show cd s (k+1)=(⟨f.out,f.line,f.col+1,f.beg⟩:nY) by show cF s k (cd s k)=_;rw[<-r.out];unfold cF;rw[E.out];simp[show¬s[k].toNat<=32 by omega,show¬s[k].toNat=10 by omega,show¬f.beg<0 by omega])
     have D:((s[k].toNat:Int)==10)=false:=by simp;omega
     have b6:((s[k].toNat:Int)==32)=false:=by simp;omega
     have b7:((s[k].toNat:Int)==9)=false:=by simp;omega
     have b8:((s[k].toNat:Int)==35)=false:=by simp;omega
     have b9:decide ((s[k].toNat:Int)<33)=false:=NQ (by omega);have c1:decide (126<(s[k].toNat:Int))=false:=NQ (by omega);have c2:decide ((s[k].toNat:Int)<=32)=false:=NQ (by omega);go_wp2_with fail;refine⟨⟨k+1,by omega,rfl,by rw[h.out],by rw[h.out],by rw[h.out],rfl,by rw[h.out];exact n,o⟩,by simp only[intOf];omega⟩
   ·rcases q with q|q|q
    ·have h:=zh (show cd s (k+1)=(⟨f.out,f.line+1,1,f.beg⟩:nY) by show cF s k (cd s k)=_;rw[<-r.out];unfold cF;rw[E.out];simp[q,H])
     have Z:(s[k].toNat:Int)=10:=by omega
     go_wp2_with fail;refine⟨⟨k+1,by omega,rfl,by rw[h.out],by rw[h.out],by rw[h.out],rfl,by rw[h.out];exact n,o⟩,by simp only[intOf];omega⟩
    ·have h:=zh (show cd s (k+1)=(⟨f.out,f.line,f.col+1,f.beg⟩:nY) by show cF s k (cd s k)=_;rw[<-r.out];unfold cF;rw[E.out];simp[q,H])
     have Z:(s[k].toNat:Int)=32:=by omega
     go_wp2_with fail;refine⟨⟨k+1,by omega,rfl,by rw[h.out],by rw[h.out],by rw[h.out],rfl,by rw[h.out];exact n,o⟩,by simp only[intOf];omega⟩
    ·have h:=zh (show cd s (k+1)=(⟨f.out,f.line,f.col+1,k⟩:nY) by show cF s k (cd s k)=_;rw[<-r.out];unfold cF;rw[E.out];simp[show¬s[k].toNat<=32 by omega,show¬s[k].toNat=10 by omega,show f.beg<0 by omega])
     have D:((s[k].toNat:Int)==10)=false:=by simp;omega
     have b6:((s[k].toNat:Int)==32)=false:=by simp;omega
     have b7:((s[k].toNat:Int)==9)=false:=by simp;omega
     have b8:((s[k].toNat:Int)==35)=false:=by simp;omega
     have b9:decide ((s[k].toNat:Int)<33)=false:=NQ (by omega);have c1:decide (126<(s[k].toNat:Int))=false:=NQ (by omega);have c2:decide ((s[k].toNat:Int)<=32)=false:=NQ (by omega);go_wp2_with fail;refine⟨⟨k+1,by omega,rfl,by rw[h.out],by rw[h.out],by rw[h.out],rfl,by rw[h.out];exact n,o⟩,by simp only[intOf];omega⟩
  ·by_cases a7:k=s.size
   ·have I:Gu s k=10:=by unfold Gu;rw[dif_neg Y]
    have E:=zh I;have b5:k<=4000:=by omega
    have c7:k<=s.size:=by omega
    clear I a7;by_cases H:0<=f.beg
    ·have h:=zh (show cd s (k+1)=(⟨f.out++ [⟨s.extract f.beg.toNat k,f.line,f.col-((k:Int)-f.beg)⟩],f.line+1,1,-1⟩:nY) by show cF s k (cd s k)=_;rw[<-r.out];unfold cF;rw[E.out];simp[H])
     obtain⟨J,K,L,M,N⟩:=info_parts rC;have a0:f.beg<=(k:Int):=by omega
     have a1:(k:Int)<=(s.size:Int):=by omega
     obtain⟨p,t⟩: ∃y:ByteArray,y=s.extract f.beg.toNat k:=⟨_,rfl⟩;have a2:s.extract f.beg.toNat k=p:=t.symm;obtain⟨u,A⟩: ∃y:Nat,y=f.out.length:=⟨_,rfl⟩;rw[<-A] at X⊢;have B:=zh A;have O:=zh t;have a3:u<=4001:=by omega
     clear A t;go_wp2_with (at_builtin;refine bb (enc:=hV.cells) rfl _ _ 204 rfl w.heap.size 208 J _ 32 underlying204 K L M N rfl (by decide) _ _ u _ [hV.mk p f.line (f.col-((k:Int)-f.beg))] rfl (by rw[B.out];exact aZ n.out λg P=>ze.block g (ar n.out P).2.1) rfl (bC 3 (c:=1) (l:= [hV.mk p f.line (f.col-((k:Int)-f.beg))]) (ag (by simp)) rfl ⟨Nt 1,by decide⟩) (λ_=>rfl) ?qc1 ?qc2 (by decide) ?qc3 ?_)
     case qc1=>intro x Q y F;obtain rfl:=Nz.1 Q;simp only[hV.cells,NL,NJ,Ou] at F;rcases F with rfl|rfl|rfl<;>rfl
     case qc2=>show(u+1)*32<140737488355328;omega
     case qc3=>have:=o.out.size;simp;omega
     intro a4 R C m S
     have T:=zh (show Qr w.heap.size w R by
      have D:=aI o.out (ak wr (.cells #[p,(f.line:Int),(f.col-((k:Int)-f.beg):Int)] 208)) o.out.size;exact D.trans ⟨m.os,m.tape,m.output,m.size,λj U=>m.block j (No U D.size) λe=>by have:=(ar n.out (g:=j) (by rw[<-B.out];exact e.symm)).1;omega⟩)
     have V:=zh C;obtain⟨a5,a6,rfl⟩:=az C;clear C m S;go_wp2_with fail;rw[<-O.out] at h;refine⟨⟨k+1,by omega,rfl,by rw[h.out],by rw[h.out],by rw[h.out],rfl,?_,T⟩,by simp only[intOf];omega⟩;rw[h.out];refine zh ?_;have W:=V.out;simp only[Nw,NS,NK,<-B.out];simpa using W
    ·have h:=zh (show cd s (k+1)=(⟨f.out,f.line+1,1,f.beg⟩:nY) by show cF s k (cd s k)=_;rw[<-r.out];unfold cF;rw[E.out];simp[H])
     go_wp2_with fail;refine⟨⟨k+1,by omega,rfl,by rw[h.out],by rw[h.out],by rw[h.out],rfl,by rw[h.out];exact n,o⟩,by simp only[intOf];omega⟩
   ·have a8:k=s.size+1:=by omega
    have c3:=zh a8;have c8: ¬k<=s.size:=by omega
    clear a7 a8 Y;go_wp2;refine NG (results_tmp3 rfl _ _ _) rfl ?_;refine⟨_,rfl,?_,o.out⟩;rw[<-c3.out,<-r.out];exact n.out
def Dv(s:ByteArray)(i:Nat):Int:=if h:i<s.size then(s[i].toNat:Int)-48 else 0
def gu(s:ByteArray):Nat->Int
 |0=>0
 |i+1=>gu s i*10+Dv s i
structure Jh(s:ByteArray):Prop where
 size:1<=s.size/\s.size<=9
 all: ∀i,(h:i<s.size)->48<=s[i].toNat/\s[i].toNat<=57
 head: ∀(h:0<s.size),s[0].toNat=48->s.size=1
def kI{s:ByteArray}(a:Jh s): ∀k,k<=s.size->0<=gu s k/\gu s k<10^k
 |0,_=>by simp[gu]
 |k+1,c=>by
  have d:=kI a k zo;have e:=a.all k zo;unfold gu Dv;rw[dif_pos (zo:k<s.size)];have f:(10:Int)^(k+1)=10^k*10:=Int.pow_succ 10 k;omega
def Lx(k:Nat)(a:k<=9):(10:Int)^k<=1000000000:=(show∀j:Fin 10,(10:Int)^j.1<=1000000000 by decide) ⟨k,by omega⟩
def rD{s:ByteArray}{w:Qm}(H:Qs (Jh s)):Qo zP 118 #[s] w (aK w (.tuple #[(gu s s.size:Int),()])):=by
 have t:=H.size.1;have u:=H.size.2;have x:=H.all 0 zo;have d:=H.head zo;have y:0<s.size:=zo;have m:((s[0].toNat:Int)==45)=false:=by simp;omega
 by_cases e:s[0].toNat=48
 ·have n:s.size=1:=d e
  have f:(s[0].toNat:Int)=48:=zo;have o:=zi (1<(s.size:Int));clear d;go_enter func118,ntmps118;go_wp2_with fail;clear n e f o m;go_loopw [5,6] (λv i wr=> ∃(k:Nat),k<=s.size/\i= .int .i64 k/\v= .int .i64 (gu s k)/\Qs (Qr w.heap.size w wr)) (λ_ i _=>s.size-(intOf i).toNat)
  case atStart=>exact⟨0,Nx _,rfl,rfl,zh zr⟩
  case round=>
   obtain⟨k,g,rfl,rfl,a⟩:=hrel;obtain⟨n1,n2⟩:=kI H k g;by_cases c:k<s.size
   ·obtain⟨p,q⟩:=H.all k c
    have h:=zh (show gu s (k+1)=gu s k*10+((s[k].toNat:Int)-48) by show gu s k*10+Dv s k=_;unfold Dv;rw[dif_pos c]);have j:=Lx k zo;have r:gu s k<1000000000:=zo;clear n2 j;go_wp2_with fail;refine⟨⟨k+1,zo,rfl,by rw[h.out],a⟩,by simp only[intOf];omega⟩
   ·have l:=zh (zo:k=s.size)
    clear n1 n2;go_wp2;go_ret2;exact⟨by rw[l];rfl,a⟩
 ·have f:((s[0].toNat:Int)==48)=false:=by simp;omega
  clear d;go_enter func118,ntmps118;go_wp2_with fail;clear e f m;go_loopw [5,6] (λv i wr=> ∃(k:Nat),k<=s.size/\i= .int .i64 k/\v= .int .i64 (gu s k)/\Qs (Qr w.heap.size w wr)) (λ_ i _=>s.size-(intOf i).toNat)
  case atStart=>exact⟨0,Nx _,rfl,rfl,zh zr⟩
  case round=>
   obtain⟨k,g,rfl,rfl,a⟩:=hrel;obtain⟨n1,n2⟩:=kI H k g;by_cases c:k<s.size
   ·obtain⟨p,q⟩:=H.all k c
    have h:=zh (show gu s (k+1)=gu s k*10+((s[k].toNat:Int)-48) by show gu s k*10+Dv s k=_;unfold Dv;rw[dif_pos c]);have j:=Lx k zo;have r:gu s k<1000000000:=zo;clear n2 j;go_wp2_with fail;refine⟨⟨k+1,zo,rfl,by rw[h.out],a⟩,by simp only[intOf];omega⟩
   ·have l:=zh (zo:k=s.size)
    clear n1 n2;go_wp2;go_ret2;exact⟨by rw[l];rfl,a⟩
def KA(s:ByteArray):Bool:=s.data.toList.all λc=>c.toNat==10||c.toNat==32||(decide (33<=c.toNat)&&decide (c.toNat<=126)&&c.toNat !=35)
def Gw{s:ByteArray}(c:KA s=true):uD s:=by
 intro i d;have a:=Ob.1 c s[i] (by simp[NY]);simp at a;omega
def zN(k:Int):iW k=oO\/iW k=oP\/iW k=oQ\/iW k=oR:=by
 unfold iW;split
 ·exact .inl rfl
 ·split
  ·exact .inr (.inl rfl)
  ·split
   ·exact .inr (.inr (.inl rfl))
   ·exact .inr (.inr (.inr rfl))
def jp(k:Int):uD (iW k)/\(iW k).size<=200:=by
 rcases zN k with a|a|a|a<;>rw[a]<;>exact⟨Gw zk,Ns zk⟩
def mI{n:ByteArray}{l:List ah}(B:cD n l=true)(i:Nat)(t:i<l.length):bn (l.getD i ah.zero).name=true/\(1<=(l.getD i ah.zero).keep/\(l.getD i ah.zero).keep<=1000000)/\(1<=(l.getD i ah.zero).shards/\(l.getD i ah.zero).shards<=8)/\(1<=(l.getD i ah.zero).every/\(l.getD i ah.zero).every<=1000000)/\(i=0->(l.getD i ah.zero).every=1)/\
 (∀j,i=j+1->1<=(l.getD j ah.zero).every/\(l.getD j ah.zero).every<(l.getD i ah.zero).every/\(l.getD i ah.zero).every%(l.getD j ah.zero).every=0/\(l.getD j ah.zero).keep<=(l.getD i ah.zero).keep)/\ ∀j,j<i->((l.getD j ah.zero).name.toList==(l.getD i ah.zero).name.toList)=false:=by
 obtain⟨-,-,g⟩:=df B
 have o: ∀j,j<l.length->1<=(l.getD j ah.zero).every/\(l.getD j ah.zero).every<=1000000:=by
  intro j
  induction j with
  |zero=>
   intro d;obtain⟨-,-,-,a⟩:=cZ (g 0 d);rcases a with⟨-,a⟩|⟨e,x,a,-⟩
   ·omega
   ·simp at a
  |succ j u=>
   intro d;have p:=u zo;obtain⟨-,-,-,a⟩:=cZ (g (j+1) d);rcases a with⟨a,-⟩|⟨e,x,a,h,k,q,-⟩
   ·have:=Of List.length a;simp only[NP,Nw,NS,OM] at this;omega
   ·have f:x=l.getD j ah.zero:=by
     have c:(l.take (j+1))[j]?=some x:=by
      have m:e.length=j:=by have:=Of List.length a;simp only[NP,Nw,NS,OM] at this;omega
      rw[a,<-m];simp
     rw[Ow zo] at c;rw[Nr,c];rfl
    rw[f] at k;exact⟨zo,q⟩
 obtain⟨p,v,w,a⟩:=cZ (g i t);refine⟨p,v,w,o i t,λy=>?_,λj d=>?_,λj d=>?_⟩
 ·rcases a with⟨-,a⟩|⟨e,x,a,-⟩
  ·exact a
  ·rw[y] at a;simp at a
 ·rcases a with⟨a,-⟩|⟨e,x,a,h,k,q,r,A⟩
  ·have:=Of List.length a;simp only[NP,Nw,NS,OM] at this;omega
  ·have f:x=l.getD j ah.zero:=by
    have c:(l.take i)[j]?=some x:=by
     have m:e.length=j:=by have:=Of List.length a;simp only[NP,Nw,NS,OM] at this;omega
     rw[a,<-m];simp
    rw[Ow zo] at c;rw[Nr,c];rfl
   rw[<-f];have s:=o j zo;rw[<-f] at s;refine⟨s.1,k,?_,A⟩;unfold lS at r;exact(Ns r).2
 ·rcases a with⟨a,-⟩|⟨e,x,a,h,-⟩
  ·have:=Of List.length a;simp only[NP,Nw,NS,OM] at this;omega
  ·rw[Jz]
   refine h _ ?_
   have c:(l.take i)[j]?=some (l.getD j ah.zero):=by
    rw[Ow d,Nr,Np zo];rfl
   exact NO c
def zb0(v:Qn)(n:ByteArray)(l:List ah)(w:Qm)(h2:ie w v n l)(h3:n.size<=9223372036854775807)(d8:Qs (cD n l=true)):Qo zP 64 #[v] w (aK w (.tuple #[(),()])):=by
 have d9:=df d8;obtain⟨h4,rfl,a7⟩:=h2;have a8:=zh a7;obtain⟨a,A,rfl,a9,h5,b0⟩:=a7;have e0:=zh b0;have h6:=zh a9;obtain⟨q,b1⟩:=zy (bn n);clear b0 a9;obtain⟨b2,⟨e1,e2⟩,-⟩:=d9;have e3:q=true:=by rw[b1];exact b2
 subst e3;have e4:1<=(l.length:Int):=zo;have h7:(l.length:Int)<=5:=zo;clear b2 e1 e2
 ·obtain⟨b,o,rfl,e,b3⟩:=e0 (by intro g;simp[g] at e4)
  have Q:=zh b3;clear b3;go_enter func64,ntmps64;go_wp2_with fail;refine zb (kF n _ h3) λe5 d=>?_
  rw[<-b1];obtain⟨R,b4⟩:=bl d;have e6:=zh R;have e7:=zh b4;obtain⟨B,r⟩:=bE R;clear b4 R;go_wp2_with fail;clear B r;go_loopw [4] (λx wr=> ∃(i:Nat),i<=l.length/\x= .int .i64 i/\Qs (wr.heap[w.heap.size]?=some (.cells #[n,.slice (some ⟨b,o,none⟩) l.length A] 32))/\Qs (Qr w.heap.size w wr)) (λx _=>l.length-(intOf x).toNat)
  case atStart=>exact⟨0,Nx _,rfl,e6,e7⟩
  case round=>
   obtain⟨i,h8,rfl,b5,t⟩:=hrel;obtain⟨B,r⟩:=bE b5;by_cases S:i<l.length
   ·obtain⟨E,F,H,I⟩:=Q i S
    replace E:=(t.cell (p:=⟨b,_,none⟩) e).trans E;replace F:=(t.cell (p:=⟨b,_,none⟩) e).trans F;replace H:=(t.cell (p:=⟨b,_,none⟩) e).trans H;replace I:=(t.cell (p:=⟨b,_,none⟩) e).trans I;obtain⟨T,b6,b7,b8⟩:=kr a8 i S;obtain⟨U,b9,c1,c2,V,J,W⟩:=mI d8 i S;obtain⟨s,c3⟩:=zx ((l.getD i ah.zero).name);obtain⟨ev,X⟩:=zy ((l.getD i ah.zero).every);obtain⟨h,e8⟩:=zy ((l.getD i ah.zero).keep);obtain⟨sh,c4⟩:=zx ((l.getD i ah.zero).shards);rw[<-c3] at E T U W;rw[<-X] at F b6 c2 V J;rw[<-e8] at H b7 b9 J;rw[<-c4] at I b8 c1;have e9:=zh U;have f0:=zh V;have f1:=zh J;have f2:=zh W;clear U V J W;have f3:=zh T;unfold aQ at b6 b7 b8;clear c3 c4 T
    go_upto_region 7 with(fail)
    obtain⟨u,Y⟩:=zx wr.heap.size;have c5:=zh (show(wr.alloc (.cells #[s,(ev:Int),(h:Int),(sh:Int)] 116)).heap[u]?=some (.cells #[s,(ev:Int),(h:Int),(sh:Int)] 116) from ag Y.symm);have f4:=zh (show Qr w.heap.size w (wr.alloc (.cells #[s,(ev:Int),(h:Int),(sh:Int)] 116)) from ai t ze);have f5:=zh (ab b5 (ak wr (.cells #[s,(ev:Int),(h:Int),(sh:Int)] 116)));rw[<-Y];clear Y B r E F H I
    go_cut [6] (λy K=>y= .bool false/\Qs (K.heap[u]?=some (.cells #[s,(ev:Int),(h:Int),(sh:Int)] 116))/\Qs (K.heap[w.heap.size]?=some (.cells #[n,.slice (some ⟨b,o,none⟩) l.length A] 32))/\Qs (Qr w.heap.size w K))
    case first=>
     obtain⟨C,L,M,N⟩:=fG c5;go_wp2_with fail;refine zb (kF s _ f3) λf6 d=>?_
     have c6:=zh (ab c5 d);have f7:=zh (ab f5 d);have f8:=ai f4 d;clear C L M N;obtain⟨C,L,M,N⟩:=fG c6;rw[e9];obtain⟨h9,i0⟩:=b9;obtain⟨i1,i2⟩:=c1;obtain⟨i3,i4⟩:=c2;go_wp2_with fail
     go_meet
     exact⟨Of Value.bool zu,c6,f7,f8⟩
    case rest=>
     obtain⟨rfl,Z,a0,a1⟩:=hcut;obtain⟨K,f9⟩:=zx (wc:Qm);rw[<-f9] at Z a0 a1⊢;go_wp2_with fail;go_loopw [7,6] (λk y wr=> ∃(c:Nat),c<=i/\k= .int .i64 c/\y= .bool false/\Qs (wr.heap[u]?=some (.cells #[s,(ev:Int),(h:Int),(sh:Int)] 116))/\Qs (wr.heap[w.heap.size]?=some (.cells #[n,.slice (some ⟨b,o,none⟩) l.length A] 32))/\Qs (Qr w.heap.size w wr)) (λk _ _=>i-(intOf k).toNat)
     case atStart=>exact⟨0,Nx _,rfl,rfl,Z,a0,a1⟩
     case round=>
      clear Z a0 a1;obtain⟨c,i5,rfl,rfl,a2,O,m⟩:=hrel;obtain⟨C,L,M,N⟩:=fG a2;obtain⟨B,r⟩:=bE O;by_cases c7:c<i
      ·obtain⟨D,_,_,_⟩:=Q c zo
       replace D:=(m.cell (p:=⟨b,_,none⟩) e).trans D;have i6:c<l.length:=zo;have a3:=f2 c c7;obtain⟨g0,c8⟩:=zx ((l.getD c ah.zero).name);rw[<-c8] at D a3;have g1:=zh a3;clear c8 a3;go_wp2_with fail;refine zI (λw'=>(w'.heap[u]?=some (.cells #[s,(ev:Int),(h:Int),(sh:Int)] 116)/\w'.heap[w.heap.size]?=some (.cells #[n,.slice (some ⟨b,o,none⟩) l.length A] 32)/\Qr w.heap.size w w')/\w'.cell? ⟨u,0,none⟩=some (.string s)/\w'.cell? ⟨w.heap.size,1,none⟩=some (.slice (some ⟨b,o,none⟩) l.length A)/\w'.cell? ⟨b,o+c*4,none⟩=some (.string g0)) 12 (zL [?_,?_,?_,?_,?_,?_,?_,?_,?_,?_,?_,?_]) (λe5 f6 g d=>⟨⟨ab g.1.1 d,ab g.1.2.1 d,ai g.1.2.2 d⟩,ae g.2.1 d,ae g.2.2.1 d,ae g.2.2.2 d⟩) (⟨⟨a2,O,m.drew⟩,C,r,D⟩) ?_;rotate_right
       iterate 12
        refine zW ?_
       refine zA λi7 c9 g2=>?_
       have a4:=zh c9.1;clear c9 g2 C L M N B r D;rw[g1];go_wp2;go_roundw
       case rel=>exact⟨c+1,zo,by go_num,rfl,zh a4.1,zh a4.2.1,zh a4.2.2⟩
       case measure=>simp[intOf];omega
      ·have g3:c=i:=zo
       subst g3;by_cases g4:c=0
       ·subst g4
        have g5:ev=1:=f0 rfl;subst g5;clear X;go_wp2_with fail;go_roundw
        case rel=>exact⟨1,zo,rfl,O,m⟩
        case measure=>simp[intOf];omega
       ·obtain⟨f,d0⟩: ∃j,c=j+1:=⟨c-1,zo⟩
        have i8:(c:Int)-1=(f:Int):=zo;have d1:f<l.length:=zo;obtain⟨z0,z1,z2,z3⟩:=Q f d1;replace z0:=(m.cell (p:=⟨b,_,none⟩) e).trans z0;replace z1:=(m.cell (p:=⟨b,_,none⟩) e).trans z1;replace z2:=(m.cell (p:=⟨b,_,none⟩) e).trans z2;replace z3:=(m.cell (p:=⟨b,_,none⟩) e).trans z3;obtain⟨_,d2,d3,d4⟩:=kr a8 f d1;have d5:=f1 f d0;obtain⟨i9,d6⟩:=zx ((l.getD f ah.zero).name);obtain⟨P,a5⟩:=zx ((l.getD f ah.zero).every);obtain⟨g6,a6⟩:=zx ((l.getD f ah.zero).keep);obtain⟨j0,d7⟩:=zx ((l.getD f ah.zero).shards);rw[<-a5,<-a6] at d5;rw[<-d6] at z0;rw[<-a5] at z1 d2;rw[<-a6] at z2 d3;rw[<-d7] at z3 d4;obtain⟨g7,g8,g9,h0⟩:=d5;unfold aQ at d2 d3 d4;have j1:u<wr.heap.size:=aa a2;have j2:(ev%P==0)=true:=by simpa using g9
        have j3: ¬ev<=P:=zo;have j4: ¬h<g6:=zo;have j5:1<=P/\P<=1000000:=zo;clear d6 a5 a6 d7 d0 c7 X g7 g8 h0;go_wp2_with fail;go_roundw
        case rel=>exact⟨c+1,zo,by go_num,zh (ab O ze),(ai m ze)⟩
        case measure=>simp[intOf];omega
   ·have h1:i=l.length:=zo
    subst h1;go_wp2_with fail;go_ret2;exact⟨rfl,t⟩
def Gx{s nm:ByteArray}{l:List ah}{w:Qm}(a1:Qs (∀a,Qo zP 63 #[s] a (kG a nm l)))(Q:cD nm l=true)(R:nm.size<=1000000):Qo zP 20 #[s] w (kG w nm l):=by
 have C:=zh (And.intro Q R);clear Q R;go_enter func20,ntmps20;go_wp2_with fail;obtain⟨c,r⟩:=zy (w.heap.size:Nat);obtain⟨i,k⟩:=zx (w.alloc (.cells #[.string ⟨#[]⟩,z0] 32):Qm);have t:=zh (show Qr w.heap.size w i by rw[k];exact ak _ _);have D:=zh (show i.heap[c]?=some (.cells #[.string ⟨#[]⟩,z0] 32) by rw[k,r];exact Nu _ _);rw[<-k,<-r];clear k;refine(a1 i).mono ?_;rintro x a ⟨S,rfl,E,T,F⟩;have H:=t.trans (F.mono t.size);have U:=zh (ab D F);have m:=zh (And.intro E (show∀j,aD S j->i.heap.size<=j from T));obtain⟨f,g,rfl,-,-,-⟩:=id E;obtain⟨h,V⟩:=zy (l.length:Nat);rw[<-V] at m⊢;go_wp2_with fail;obtain⟨W,u⟩:=zx (a.heap.size:Nat);obtain⟨y,n⟩:=zx (a.alloc (.cells #[nm,.slice f h g] 32):Qm);have p:Qr a.heap.size a y:=by rw[n];exact ak _ _
 have I:y.heap[W]?=some (.cells #[nm,.slice f h g] 32):=by rw[n,u];exact Nu _ _
 rw[<-n,<-u];have B2:=H.trans (p.mono H.size);have J:=zh (And.intro (ab U p) I);have K:=m.1.below p;clear n u p I;refine zb (zb0 _ nm l y ⟨_,rfl,K⟩ (by have:=C.2;omega) C.1) λL q=>?_
 have M:=B2.trans (q.mono B2.size);have d:=zh (And.intro (ab J.1 q) (ab J.2 q));have X:=K.below q;obtain⟨a2,a3⟩:=bE d.1;obtain⟨a4,a5⟩:=bE d.2;have a6:=aa d.1;have a7:=aa d.2;have a8:=λo=>ad (o:=o) d.1
 go_wp2_with fail;obtain⟨N,A⟩:=zx ((L.setCell ⟨c,0,none⟩ (.string nm)).setCell ⟨c,1,none⟩ (.slice f h g):Qm);have Y:N.heap[c]?=some (.cells #[nm,.slice f h g] 32):=by rw[A,al (al d.1 _) _];rfl
 have O:Ch (·=c) L N:=by
  rw[A]
  iterate 2 refine aP ?_ (.inl rfl)
  exact Ch.refl _ _
 rw[<-A];refine NG (v:= .tuple #[.agg #[nm,.slice f h g],(),()]) (dI results20 _ _ _ _ _ _ _ _ _ rfl rfl rfl Y underlying32 rfl zk) rfl ⟨_,rfl,fD X O λj e P=>?_,λj e=>?_,M.trans (O.below (B:=w.heap.size) (λj e=>by have e:j=c:=e;have:=r.out;omega) M.size)⟩
 ·have P:j=c:=P
  have Z:=m.2 j e;have a0:=aa D;omega
 ·have Z:=m.2 j e
  have a0:=t.size;omega
inductive TW:Int->List hV->List ah->Prop
 |nil (ln:Int):TW ln [] []
 |cons {ln c0 c1 c2 c3 c4 c5 c6 c7:Int} {y e k s:ByteArray} {R:List hV} {l:List ah} (hy:y.size<=4000) (he:Jh e) (hk:Jh k) (hs:Jh s) (h:TW (ln+1) R l):
  TW ln (⟨jT,ln,c0⟩::⟨y,ln,c1⟩::⟨it,ln,c2⟩::⟨e,ln,c3⟩::⟨kU,ln,c4⟩::⟨k,ln,c5⟩::⟨gc,ln,c6⟩::⟨s,ln,c7⟩::R) (⟨y,gu e e.size,gu k k.size,gu s s.size⟩::l)
def TW.head{a:Int}{R:List hV}{l:List ah}(c:TW a R l):R= []\/ ∃x R',R=x::R'/\x.line=a:=by
 cases c with
 |nil=>exact .inl rfl
 |cons=>exact .inr ⟨_,_,rfl,rfl⟩
def TW.len{c:Int}{R:List hV}{l:List ah}(d:TW c R l):R.length=8*l.length:=by
 induction d with
 |nil=>rfl
 |cons _ _ _ _ _ a=>simp only[NW,a];omega
def TW.good{c:Int}{R:List hV}{l:List ah}(h:TW c R l): ∀x∈l,x.ok:=by
 induction h with
 |nil=>intro x a;cases a
 | @cons c c0 j m n o p q r y e k s R l t d f g h i=>
  intro x a;rcases NL.1 a with rfl|a
  ·have u:=kI d _ zl
   have v:=kI f _ zl;have w:=kI g _ zl;have A:=Lx _ d.size.2;have B:=Lx _ f.size.2;have C:=Lx _ g.size.2;exact⟨by show y.size<=_;omega,by unfold aQ;dsimp only;omega,by unfold aQ;dsimp only;omega,by unfold aQ;dsimp only;omega⟩
  ·exact i x a
def TW.inv{a:Int}{R:List hV}{l:List ah}(c:TW a R l):(R= []/\l= [])\/ ∃(c0 f g h i j m n:Int) (y e k s:ByteArray) (R':List hV) (d:List ah),
 (R=⟨jT,a,c0⟩::⟨y,a,f⟩::⟨it,a,g⟩::⟨e,a,h⟩::⟨kU,a,i⟩::⟨k,a,j⟩::⟨gc,a,m⟩::⟨s,a,n⟩::R'/\l=⟨y,gu e e.size,gu k k.size,gu s s.size⟩::d)/\(Jh e/\Jh k/\Jh s)/\TW (a+1) R' d:=by
 cases c with
 |nil=>exact .inl ⟨rfl,rfl⟩
 |cons r o p q c=>exact .inr ⟨_,_,_,_,_,_,_,_,_,_,_,_,_,_,⟨rfl,rfl⟩,⟨o,p,q⟩,c⟩
def PW(c:List hV)(nm:ByteArray)(l:List ah):Prop:= ∃c0 a R,c=⟨ep,1,c0⟩::⟨nm,1,a⟩::R/\TW 2 R l
def fE{w:Qm}{a:Option Addr}{n c:Nat}{l:List hV}(g:aB 3 hV.cells w (.slice a n c) l){j:Nat}{x:hV}(h:l[j]?=some x): ∃b o,a=some ⟨b,o,none⟩/\b<w.heap.size/\w.cell? ⟨b,o+j*3,none⟩=some (.string x.text)/\w.cell? ⟨b,o+j*3+1,none⟩=some (.int .i64 x.line)/\w.cell? ⟨b,o+j*3+2,none⟩=some (.int .i64 x.col):=by
 obtain⟨b,o,e,f,d⟩:=g.elem (λ_=>rfl) h;exact⟨b,o,e,f,d 0 _ rfl,d 1 _ rfl,d 2 _ rfl⟩
def Dw:Qn->Nat
 | .slice _ n _=>n
 |_=>0
def Ji{a l:List ah}(c:a=l):a.length=l.length:=by rw[c]
def Bi{w:Qm}{b o n c:Nat}{d f g h i k l m:hV}{R:List hV}(t:aB 3 hV.cells w (.slice (some ⟨b,o,none⟩) n c) (d::f::g::h::i::k::l::m::R)):
 w.cell? ⟨b,o,none⟩=some (.string d.text)/\w.cell? ⟨b,o+3,none⟩=some (.string f.text)/\w.cell? ⟨b,o+6,none⟩=some (.string g.text)/\w.cell? ⟨b,o+9,none⟩=some (.string h.text)/\w.cell? ⟨b,o+12,none⟩=some (.string i.text)/\w.cell? ⟨b,o+15,none⟩=some (.string k.text)/\w.cell? ⟨b,o+18,none⟩=some (.string l.text)/\w.cell? ⟨b,o+21,none⟩=some (.string m.text):=by
 have a: ∀j x,(d::f::g::h::i::k::l::m::R)[j]?=some x->w.cell? ⟨b,o+j*3,none⟩=some (.string x.text):=λj x p=>by
  obtain⟨u,o',e,-,q,-,-⟩:=fE t p;injection e with e;injection e with r s;subst r s
  exact q
 exact⟨a 0 _ rfl,a 1 _ rfl,a 2 _ rfl,a 3 _ rfl,a 4 _ rfl,a 5 _ rfl,a 6 _ rfl,a 7 _ rfl⟩
structure uE(w:Qm)(p q B:Nat)(nm:ByteArray)(acc:List ah)(tv v:Qn)(R:List hV):Prop where
 res:w.heap[p]?=some (.cells #[.string ⟨#[]⟩,.slice none 0 0] 32)
 pol:w.heap[q]?=some (.cells #[.string nm,tv] 32)
 own:w.ownsRow B 116 4 tv acc.length (acc.flatMap ah.cells)
 words:aB 3 hV.cells w v R
 apart: ∀b,aD v b->b<B/\b≠q
 ne:p<B/\q<B/\p≠q
 B_le:B<=w.heap.size
def KB{n:Nat}{a b c:Qm}(d:Qr a.heap.size a b)(e:Qr b.heap.size b c):Qr a.heap.size a (c.drewN n):=dU (ai d e) _
section
variable{w w':Qm}{p q B:Nat}{nm:ByteArray}{acc:List ah}{tv v v':Qn}{R R':List hV}
def uE.below(a:uE w p q B nm acc tv v R)(c:Qr w.heap.size w w'):uE w' p q B nm acc tv v R:=
 ⟨ab a.res c,ab a.pol c,aS a.own c,a.words.below c,a.apart,a.ne,Nq a.B_le c.size⟩
def uE.cut(a:uE w p q B nm acc tv v R)(d:aB 3 hV.cells w v' R')(e: ∀b,aD v' b->aD v b):uE w p q B nm acc tv v' R':=
 ⟨a.res,a.pol,a.own,d,λb c=>a.apart b (e b c),a.ne,a.B_le⟩
def uE.cut2{b o n c k:Nat}(a:uE w p q B nm acc tv (.slice (some ⟨b,o,none⟩) n c) R)(f:n=R.length)(i:k<=n)(l:n<=c)(e:v'= .slice (some ⟨b,o+k*3,none⟩) (n-k) (c-k)\/(c=k/\v'= .slice (some ⟨b,o,none⟩) (n-k) 0)):uE w p q B nm acc tv v' (R.drop k)/\Dw v'=(R.drop k).length:=by
 have h:Dw v'=(R.drop k).length:=by rw[OB,<-f];rcases e with rfl|⟨-,rfl⟩<;>rfl
 refine⟨a.cut ?_ ?_,h⟩
 ·rcases e with rfl|⟨rfl,rfl⟩
  ·have:=a.words.drop (λ_=>rfl) (j:=k) zo
   rw[<-f] at this;exact this
  ·obtain rfl:n=c:=zo
   rw[OQ zo,Ql];exact⟨_,0,rfl,⟨Nt _,zo,λ_=>rfl⟩,λa=>absurd rfl a⟩
 ·intro g d
  rcases e with rfl|⟨rfl,rfl⟩
  ·exact⟨by have:=d.1;omega,d.2⟩
  ·exact absurd d.1 zo
def uE.name(a:uE w p q B nm acc tv v R)(d:ByteArray):uE (w.setCell ⟨q,0,none⟩ (.string d)) p q B d acc tv v R:=by
 have c:Ch (·=q) w (w.setCell ⟨q,0,none⟩ (.string d)):=aP (Ch.refl _ _) (.inl rfl);have g:=a.ne;exact⟨c.keep a.res g.2.2,by rw[al a.pol];rfl,fo a.own c (λb f e=>by subst e;omega),a.words.ch c (λb f=>(a.apart b f).2),a.apart,a.ne,by simpa using a.B_le⟩
def uE.grow{tv':Qn}{acc':List ah}(a:uE w p q B nm acc tv v R)(c: ∀k,k<w.heap.size->tv.ownBlock≠some k->w'.heap[k]?=w.heap[k]?)(l:w.heap.size<=w'.heap.size)(m:w'.ownsRow B 116 4 tv' acc'.length (acc'.flatMap ah.cells)):uE (w'.setCell ⟨q,1,none⟩ tv') p q B nm acc' tv' v R:=by
 have d:=a.ne;have n:=a.B_le;have f: ∀k,k<B->tv.ownBlock≠some k:=λk o e=>by have:=(World.ownsRow.lt a.own k e).1;omega
 have g:Ch (·=q) w' (w'.setCell ⟨q,1,none⟩ tv'):=aP (Ch.refl _ _) (.inl rfl);have h:aB 3 hV.cells w' v R:=a.words.step l λb i j=>c b j (f b (a.apart b i).1)
 refine⟨(af _ d.2.2).trans ((c p zo (f p d.1)).trans a.res),by rw[al ((c q zo (f q d.2.1)).trans a.pol)];rfl,fo m g (λb c e=>by subst e;omega),h.ch g (λb c=>(a.apart b c).2),a.apart,a.ne,?_⟩;simp;omega
end
def zQ{s nm:ByteArray}{l:List ah}{w:Qm}(m0:s.size<=4000)(m1:uD s)(f5:PW (cd s (s.size+1)).out nm l)(t3:l.length<=4):Qo zP 63 #[s] w (kG w nm l):=by
 have i1:=zh (And.intro m0 m1);obtain⟨c0,a8,a9,U,i2⟩:=f5;have b5:=zh i2;have m2:=zh U;clear m0 m1 U i2;go_enter func63,ntmps63;go_wp2_with fail;obtain⟨p,b0⟩:=zy (w.heap.size:Nat);obtain⟨e4,U⟩:=zx (w.alloc (.cells #[.string ⟨#[]⟩,z0] 32):Qm);have i3:=zh (show Qr w.heap.size w e4 by rw[U];exact ak _ _);have i4:=zh (show e4.heap[p]?=some (.cells #[.string ⟨#[]⟩,z0] 32) by rw[U,b0];exact Nu _ _);rw[<-U,<-b0];clear U;refine(Gv (w:=e4) i1.1 i1.2).mono ?_;rintro x b6 ⟨v,rfl,C,i5⟩;rw[m2] at C;have f2:=i3.trans (i5.mono i3.size);have f3:=zh (ab i4 i5);have h:=aB.own (k:=3) (enc:=hV.cells) C;have i6: ∀b,aD v b->e4.heap.size<=b/\b<b6.heap.size:=λb e5=>⟨(ar C (cJ e5)).1,(ar C (cJ e5)).2.1⟩
 have i7:=zh h.1;have i8:=zh i6;obtain⟨va,vc,rfl⟩:=az C
 have e6:2<=(⟨ep,1,c0⟩::⟨nm,1,a8⟩::a9:List hV).length/\(⟨ep,1,c0⟩::⟨nm,1,a8⟩::a9:List hV).length<=34:=by
  have:=b5.len;simp only[NW];omega
 obtain⟨n,H⟩:=zx ((⟨ep,1,c0⟩::⟨nm,1,a8⟩::a9:List hV).length:Nat);rw[<-H] at e6 i7 i8⊢;obtain⟨n2,m3⟩:=e6;have b7:((n:Int)==0)=false:=by rw[Od];omega
 have f4:=zh H;clear h i6 H;go_wp2_with fail;obtain⟨q,hq⟩:=zx (b6.heap.size:Nat);obtain⟨b1,e7⟩:=zx (b6.alloc (.cells #[.string ⟨#[]⟩,z0] 32):Qm);have b8:Qr b6.heap.size b6 b1:=by rw[e7];exact ak _ _
 have e8:b1.heap[q]?=some (.cells #[.string ⟨#[]⟩,z0] 32):=by rw[e7,hq];exact Nu _ _
 rw[<-e7,<-hq];have f5:=aa i4
 have i9:uE b1 p q b1.heap.size ⟨#[]⟩ [] (.slice none 0 0) (.slice va n vc) (⟨ep,1,c0⟩::⟨nm,1,a8⟩::a9):=
  ⟨ab f3 b8,e8,World.ownsRow_nil _ _ _ _,i7.below b8,λb e5=>by have:=i8 b e5;have:=aa e8;omega,⟨aa (ab f3 b8),aa e8,by have:=aa f3;omega⟩,Nt _⟩
 have B2:=f2.trans (b8.mono f2.size);have PS:=zh i9;have j0:=zh (show w.heap.size<=q by have:=f2.size;omega);have f6:=zh (show w.heap.size<=b1.heap.size from B2.size);obtain⟨B,j1⟩:=zx (b1.heap.size:Nat);rw[<-j1] at PS f6;clear e7 hq b8 e8 f5 i9 j1 b7;go_loopw [5,9] (λv f wr=> ∃(b:Bool) (I:ByteArray) (acc b9:List ah) (R:List hV) (tv:Qn),f= .bool b/\Dw v=R.length/\acc++b9=l/\((b=true/\I=⟨#[]⟩/\acc= []/\R=(⟨ep,1,c0⟩::⟨nm,1,a8⟩::a9))\/(b=false/\I=nm/\TW (acc.length+2) R b9))/\Qs (uE wr p q B I acc tv v R)/\Qs (Qr w.heap.size w wr)) (λv _ _=>Dw v)
 case atStart=>exact⟨true,_,[],l,_,_,rfl,f4,rfl,.inl ⟨rfl,rfl,rfl,rfl⟩,PS,B2⟩
 case round=>
  obtain⟨r0,I,acc,b9,R,tv,rfl,m4,j2,m5,r,f7⟩:=hrel;have b2:=zh j2;obtain⟨r1,M,m6,N,-⟩:=id r.words;subst m6;obtain⟨n,t⟩:=zy (R.length:Nat);rw[<-t] at r N⊢;clear j2 m4 n2 m3;rcases m5 with⟨rfl,rfl,rfl,h⟩|⟨rfl,rfl,h⟩
  ·have V: ∀i,i<2-> ∃x,R[i]?=some x/\x.line=1:=λi c1=>by
    rw[h]
    match i,c1 with
    |0,_=>exact⟨_,rfl,rfl⟩
    |1,_=>exact⟨_,rfl,rfl⟩
   have c2:n=2\/ ∃x,R[2]?=some x/\x.line=2:=by
    rcases b5.head with d|⟨x,R',d,c3⟩
    ·left;rw[t,h,d];rfl
    ·right;rw[h,d];exact⟨x,rfl,c3⟩
   have e6:2<=n:=by rw[t,h];simp
   have m7:n<=34:=by rw[t,h,<-f4];have:=f4.out;have:=b5.len;simp only[NW] at*;omega
   have f8:M<=9223372036854775807/\n<=M:=⟨N.2.1,N.1⟩;obtain⟨m8,c4⟩:=f8;obtain⟨b,o,rfl,-,-,-,-⟩:=fE r.words (V 0 zo).choose_spec.1;have c5:=zh V;have f9:=zh c2;have W:=zh h;have b7:=zc (0<n);clear V c2 h N;go_wp2_with fail;go_loopw [10] (λX c6=> ∃(k:Nat),1<=k/\k<=2/\X= .int .i64 k/\Qs (Qr wr.heap.size wr c6)) (λX _=>2-(intOf X).toNat)
   case atStart=>exact⟨1,zo,zo,rfl,zh zr⟩
   case round=>
    obtain⟨k,g0,J,rfl,Y⟩:=hrel
    rename_i c6
    have m:=r.below Y;obtain⟨m9,Z,g1⟩:=c5 0 zo;obtain⟨n0,n1,a0,n3,c7,c8,c9⟩:=fE m.words Z;injection a0 with a0;injection a0 with g2 g3;subst g2 g3
    rw[Ox,NR,g1] at c8;by_cases d0:k<2
    ·obtain⟨g4,u,a1⟩:=c5 k d0
     obtain⟨g5,g6,A,g7,a2,a3,a4⟩:=fE m.words u;injection A with A;injection A with a5 a6;subst a5 a6
     rw[a1] at a3;have d1:k<n:=zo;clear c7 c9 a2 a4 Z u;go_wp2_with fail;go_quiet (fail);go_wp2;go_roundw
     case rel=>exact⟨k+1,zo,zo,by go_num,(dU Y _)⟩
     case measure=>simp[intOf];omega
    ·have E:=zh (zo:k=2)
     have n4:2<=k:=zo;have n5:0<=k:=zo;clear d0 c7 c9 Z J g0;rcases f9.out with H|⟨g4,u,a1⟩
     case' inl=>
      have n6:decide (k<n)=false:=NQ (by have:=E.out;omega);have d1:k<=n:=by have:=E.out;omega
      clear H;go_wp2_with fail;go_quiet (fail)
     case' inr=>
      rw[<-E] at u;obtain⟨g5,g6,A,g7,a2,a3,a4⟩:=fE m.words u;injection A with A;injection A with a5 a6;subst a5 a6
      rw[a1] at a3;have d1:k<n:=by have:=(Ny.1 u).1;have:=t.out;omega
      clear a2 a4 u;go_wp2_with fail;go_quiet (fail)
     all_goals by_cases d2:M=k
     all_goals go_upto_region 14 with(fail)
     all_goals(first|(obtain⟨d3,D⟩:=zx (Value.slice (some ⟨b,o+k*3,none⟩) (n-k) (M-k));rw[<-D];have O:=zh (m.cut2 t (Qe zo) c4 (.inl D)))|(obtain⟨d3,D⟩:=zx (Value.slice (some ⟨b,o,none⟩) (n-k) 0);rw[<-D];have O:=zh (m.cut2 t (Qe zo) c4 (.inr ⟨d2,D⟩))))
     all_goals clear D d2 c8
     all_goals
      obtain⟨r2,r3,g8,r4,j3,-,-⟩:=fE m.words (j:=0) (x:=⟨ep,1,c0⟩) (by rw[W];rfl);injection g8 with g8;injection g8 with n7 n8;subst n7 n8
      obtain⟨_,_,g9,_,j4,-,-⟩:=fE m.words (j:=1) (x:=⟨nm,1,a8⟩) (by rw[W];rfl);injection g9 with g9;injection g9 with n9 o0;subst n9 o0
      rw[Ox,NR] at j3;rw[Nat.one_mul] at j4;dsimp only[ep] at j3 j4;obtain⟨d4,K⟩:=bE m.pol;have d5:=aa m.pol;have o1:=λo=>ad (o:=o) m.pol
      have o2:(k:Int)=2:=by have:=E.out;omega
      go_wp2_with fail;go_roundw
      case rel=>
       obtain⟨j5,d6⟩:=O.out;rw[E,W] at j5 d6;exact⟨false,nm,[],b9,a9,tv,rfl,d6,b2,.inr ⟨rfl,rfl,by have d:=b2.out;rw[Ol] at d;rw[d];exact b5⟩,zh ((j5.below (dU zr _)).name nm),(ao (KB f7 Y) j0)⟩
      case measure=>have d7:=O.2;have r5:=Of List.length W;rw[OB,<-t] at d7;show Dw d3<n;rw[d7];omega
  ·rcases h.inv with⟨o3,o4⟩|⟨o5,r6,r7,r8,r9,s0,s1,s2,b3,j6,j7,j8,R',l2,⟨h,h0⟩,j9,e9⟩
   ·have b7:n=0:=by rw[t,o3];rfl
    have k0:acc=l:=by have d:=b2.out;rw[o4,OJ] at d;exact d
    have k1:=zh k0;have o6:=zh (TW.good b5);obtain⟨d4,K⟩:=bE r.pol;obtain⟨s3,s4⟩:=bE r.res;have d5:=aa r.pol;have s5:=aa r.res;have s6:=λo=>ad (o:=o) r.res
    have b7:((n:Int))=0:=zo;clear N k0;obtain⟨P,Q,rfl⟩:=az r.own;rw[Ji k1] at K r;go_wp2_with fail;obtain⟨h1,f0⟩:=zx ((wr.setCell ⟨p,0,none⟩ (.string I)).setCell ⟨p,1,none⟩ (.slice P l.length Q):Qm);have o7:h1.heap[p]?=some (.cells #[I,.slice P l.length Q] 32):=by rw[f0,al (al r.res _) _];rfl
    have o8:Ch (·=p) wr h1:=by
     rw[f0]
     iterate 2 refine aP ?_ (.inl rfl)
     exact Ch.refl _ _
    rw[<-f0];have o9:Qr w.heap.size w h1:=by rw[f0];exact ao (ao f7 (by show w.heap.size<=p;have:=b0.out;omega)) (by show w.heap.size<=p;have:=b0.out;omega)
    have C:=r.own;rw[k1] at C;have p0:=fo C o8 (λj f1 e=>by have:=r.ne.1;have e:j=p:=e;omega);refine NG (v:= .tuple #[.agg #[I,.slice P l.length Q],(),()]) (dI results63 _ _ _ _ _ _ _ _ _ rfl rfl rfl o7 underlying32 rfl zk) rfl ⟨_,rfl,gD p0 o6,λj f1=>?_,o9⟩;have:=(ar C (cJ f1)).1;have:=f6.out;omega
   ·obtain⟨d8,h2⟩:=zx (acc.length+2:Int)
    rw[<-h2] at h e9
    have V: ∀i,i<8-> ∃x,R[i]?=some x/\x.line=d8:=λi c1=>by
     rw[h]
     match i,c1 with
     |0,_|1,_|2,_|3,_|4,_|5,_|6,_|7,_=>exact⟨_,rfl,rfl⟩
    have c2:n=8\/ ∃x,R[8]?=some x/\x.line=d8+1:=by
     rcases e9.head with d|⟨x,s7,d,c3⟩
     ·left;rw[t,h,d];rfl
     ·right;rw[h,d];exact⟨x,rfl,c3⟩
    have e6:8<=n:=by rw[t,h];simp
    have s8:acc.length<4:=by have d:=Of List.length b2;rw[h0] at d;simp only[Nw,NW] at d;omega
    have m7:n<=34:=by have d:=(TW.len ‹TW _ R b9›);have c3:=Of List.length b2;rw[Nw] at c3;rw[t];omega
    have k2:d8<=6/\2<=d8:=zo;obtain⟨k2,s9⟩:=k2;have f8:M<=9223372036854775807/\n<=M:=⟨N.2.1,N.1⟩;obtain⟨m8,c4⟩:=f8;obtain⟨b,o,rfl,-,-,-,-⟩:=fE r.words (V 0 zo).choose_spec.1;have c5:=zh V;have f9:=zh c2;have W:=zh h;have p1:=zh h0;have p2:=zh e9;have h3:=zh j9;have p3:=zh h2;have b7:=zc (0<n);clear V c2 h N h0 e9 j9 h2
    rename_i p4
    clear p4;go_wp2_with fail;go_loopw [10] (λX c6=> ∃(k:Nat),1<=k/\k<=8/\X= .int .i64 k/\Qs (Qr wr.heap.size wr c6)) (λX _=>8-(intOf X).toNat)
    case atStart=>exact⟨1,zo,zo,rfl,zh zr⟩
    case round=>
     obtain⟨k,g0,J,rfl,Y⟩:=hrel
     rename_i c6
     have m:=r.below Y;obtain⟨m9,Z,g1⟩:=c5 0 zo;obtain⟨n0,n1,a0,n3,c7,c8,c9⟩:=fE m.words Z;injection a0 with a0;injection a0 with g2 g3;subst g2 g3
     rw[Ox,NR,g1] at c8;by_cases d0:k<8
     ·obtain⟨g4,u,a1⟩:=c5 k d0
      obtain⟨g5,g6,A,g7,a2,a3,a4⟩:=fE m.words u;injection A with A;injection A with a5 a6;subst a5 a6
      rw[a1] at a3;have d1:k<n:=zo;clear c7 c9 a2 a4 Z u;go_wp2_with fail;go_quiet (fail);go_wp2;go_roundw
      case rel=>exact⟨k+1,zo,zo,by go_num,(dU Y _)⟩
      case measure=>simp[intOf];omega
     ·have E:=zh (zo:k=8)
      have n4:8<=k:=zo;have n5:0<=k:=zo;clear d0 c7 c9 Z J g0;rcases f9.out with H|⟨g4,u,a1⟩
      case' inl=>
       have n6:decide (k<n)=false:=NQ (by have:=E.out;omega);have d1:k<=n:=by have:=E.out;omega
       clear H;go_wp2_with fail;go_quiet (fail)
      case' inr=>
       rw[<-E] at u;obtain⟨g5,g6,A,g7,a2,a3,a4⟩:=fE m.words u;injection A with A;injection A with a5 a6;subst a5 a6
       rw[a1] at a3;have d1:k<n:=by have:=(Ny.1 u).1;have:=t.out;omega
       clear a2 a4 u;go_wp2_with fail;go_quiet (fail)
      all_goals by_cases d2:M=k
      all_goals go_upto_region 14 with(fail)
      all_goals(first|(obtain⟨d3,D⟩:=zx (Value.slice (some ⟨b,o+k*3,none⟩) (n-k) (M-k));rw[<-D];have O:=zh (m.cut2 t (Qe zo) c4 (.inl D)))|(obtain⟨d3,D⟩:=zx (Value.slice (some ⟨b,o,none⟩) (n-k) 0);rw[<-D];have O:=zh (m.cut2 t (Qe zo) c4 (.inr ⟨d2,D⟩))))
      all_goals clear D d2 c8
      all_goals
       have a7:=zh (show uE wr p q B I acc tv _ _ from by have d:=m;rw[W] at d;exact d);obtain⟨P,Q,rfl⟩:=az a7.own;obtain⟨k3,d9,k4,t0,k5,h4,k6,h5⟩:=Bi a7.words;dsimp only[jT,it,kU,gc] at k3 k4 k5 k6;obtain⟨d4,K⟩:=bE a7.pol;have d5:=aa a7.pol;have o2:(k:Int)=8:=by have:=E.out;omega
       clear d9 h4 h5;go_wp2_with fail;refine zb (rD h3.1) λp5 e0=>?_
       have k7:=zh (show Qr wr.heap.size wr p5 from⟨e0.os,e0.tape,e0.output,e0.size,e0.block⟩);have p6:=a7.below k7;obtain⟨e1,k8⟩:=zy (gu j6 j6.size);rw[<-k8];clear k3 k4 k5 k6 d4 K d5;have h4:=(Bi p6.words).2.2.2.2.2.1;go_wp2_with fail;refine zb (rD h3.2.1) λt1 p7=>?_
       have k9:=ai k7 p7;have p8:=a7.below k9;obtain⟨e2,l0⟩:=zy (gu j7 j7.size);rw[<-l0];clear h4;have h5:=(Bi p8.words).2.2.2.2.2.2.2;go_wp2_with fail;refine zb (rD h3.2.2) λw7 p9=>?_
       have h6:=ai k9 p9;have F:=a7.below h6;obtain⟨e3,l1⟩:=zy (gu j8 j8.size);rw[<-l1];clear h5;have d9:=(Bi F.words).2.1;obtain⟨d4,K⟩:=bE F.pol;have d5:=aa F.pol;have t2:=(F.words.elem (λ_=>rfl) (j:=0) (x:=⟨jT,d8,o5⟩) rfl).choose_spec.choose_spec.2.1;go_wp2_with fail;obtain⟨q0,c1,q1,q2,q3⟩:=info_parts nt;have l3:=λk J=>(World.ownsRow.lt F.own k J)
       have q4:=F.ne;have q5:=(F.apart b ⟨zo,rfl⟩);have T:=zh (show∀k,(Value.slice P acc.length Q).ownBlock=some k->k≠q/\k≠b/\B<=k from λk J=>by have:=l3 k J;omega);have q6:=zh (zo:(acc.length+1)*40<140737488355328);clear l3 q4 q5;refine aC (S:=(λw'=>w'.cell? ⟨q,1,none⟩=some (.slice P acc.length Q)/\w'.cell? ⟨b,o+3,none⟩=some (.string b3))) 13 zk ?_ (λg=>?_)
       ·(first|exact⟨K,d9⟩|exact⟨ae g.1 ze,ae g.2 ze⟩|exact⟨ae g.1 ze.drew,ae g.2 ze.drew⟩|exact⟨b4 _ _ g.1 (λe=>(T _ e).1 rfl),b4 _ _ g.2 (λe=>(T _ e).2.1 rfl)⟩)
       refine zU 0 ?_;refine zU 1 ?_;refine zU 2 ?_;refine zU 3 ?_;refine zU 4 ?_;refine zU 5 ?_;refine zU 6 ?_;refine zU 7 ?_;refine zU 8 ?_;refine zU 9 ?_;refine zO 10 λq7 h7=>?_
       go_simp
       skip
       refine zE h7 (by first|exact⟨K,d9⟩|exact⟨ae g.1 ze,ae g.2 ze⟩|exact⟨ae g.1 ze.drew,ae g.2 ze.drew⟩|exact⟨b4 _ _ g.1 (λe=>(T _ e).1 rfl),b4 _ _ g.2 (λe=>(T _ e).2.1 rfl)⟩) λg=>?_
       refine zO 11 λq7 h7=>?_
       rw[NH (by simp[Region.wanted])];refine cY (enc:=ah.cells) _ _ 30 rfl B 116 q0 _ 40 underlying30 c1 q1 q2 q3 rfl zd _ _ _ _ [ah.mk b3 e1 e2 e3] rfl (aS F.own ze.drew) rfl (bC 4 (c:=1) (l:= [ah.mk b3 e1 e2 e3]) (ag rfl) rfl ⟨Nt 1,zd⟩) (λ_=>rfl) (by intro x y l4;simp only[ah.cells,NL,NJ,Ou] at l4;rcases l4 with rfl|rfl|rfl|rfl<;>rfl) q6 zd (Nq F.B_le ze.drew.size) (λv' h8 C L=>?_);have b4:=λ(p:Addr) (x:Qn) (l5:World.cell? _ p=some x) (b0:(Value.slice P acc.length Q).ownBlock≠some p.block)=>(World.cell?_of_block (a:=p) (L.block p.block (Nv _ _ l5) (λe=>b0 e.symm))).trans l5
       refine zE h7 (by first|exact⟨K,d9⟩|exact⟨ae g.1 ze,ae g.2 ze⟩|exact⟨ae g.1 ze.drew,ae g.2 ze.drew⟩|exact⟨b4 _ _ g.1 (λe=>(T _ e).1 rfl),b4 _ _ g.2 (λe=>(T _ e).2.1 rfl)⟩) λg=>?_
       refine zU 12 ?_;refine zF ?_;obtain⟨l6,l7,rfl⟩:=az C
       have h9: ∀k,k<w7.heap.size->(Value.slice P acc.length Q).ownBlock≠some k->h8.heap[k]?=w7.heap[k]?:=λk J H=>by
        rw[L.block k zu (λe=>H e.symm)];exact PF ze.drew k J
       have q8:=zh (uE.grow (w':=h8) (tv':= .slice l6 (acc.length+1) l7) (acc':=acc++ [ah.mk b3 e1 e2 e3]) (O.1.below h6) h9 (by have:=L.size;simp at this;omega) (by simpa using C));have i0:=(h9 q (aa F.pol) (λe=>(T q e).1 rfl)).trans F.pol;obtain⟨d4,K⟩:=bE i0;have o1:=λo=>ad (o:=o) i0
       have d5:=aa i0;have q9:=zh (show Qr w.heap.size w h8 from by have l8:=ai (ai (ai f7 Y) h6) (ak w7 (.cells #[b3,(e1:Int),(e2:Int),(e3:Int)] 116)).drew;exact l8.trans ⟨L.os,L.tape,L.output,L.size,λj f1=>L.block j (No f1 l8.size) λe=>by have:=(T j e.symm).2.2;have:=f6.out;omega⟩);clear h9 C L g;go_wp2;go_roundw
       case rel=>
        obtain⟨-,d6⟩:=O.out;have l9:=q8.out;rw[E,W] at l9 d6;refine⟨false,I,acc++ [ah.mk b3 e1 e2 e3],l2,R',.slice l6 (acc.length+1) l7,rfl,d6,?_,.inr ⟨rfl,rfl,?_⟩,zh l9,(ao q9 j0)⟩
        ·rw[<-b2,p1,k8,l0,l1,NX];rfl
        ·have d:=p2.out
         rw[p3] at d;rw[Nw,NS]
         rwa [(zo:(((acc.length+1:Nat):Int)+2)=(acc.length:Int)+2+1)]
       case measure=>have d7:=O.2;rw[OB,<-t] at d7;show Dw d3<n;rw[d7];omega
end Go.Proofs.YtdflhgceeloijaaGreatDoor
