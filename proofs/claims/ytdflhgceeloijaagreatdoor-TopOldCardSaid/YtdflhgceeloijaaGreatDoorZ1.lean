import Derived.RowKit
import Derived.WalkKit
import Derived.Lib.Hide
import Derived.Test.YtdflhgceeloijaaGreatDoorProg
import Derived.WalkSpells
import Derived.WalkLawsBesides
import Derived.Deep.RegionHeld3
import Derived.Deep.AppendLies
import Derived.Deep.QuietTactic
import Derived.BigQuiet
import Derived.OrdersHeld
import Derived.StillTail
import Derived.Deep.RegionHeld
import Derived.Test.YtdflhgceeloijaaGreatDoorSf
import Derived.StillTailTactics
import Derived.Maps.OwnSet
import Derived.Maps.StringElems
import Derived.Shelf.SlMaps.Clone
set_option linter.all false
set_option maxRecDepth 100000
set_option maxHeartbeats 16000000
namespace Go.Proofs.YtdflhgceeloijaaGreatDoor
open Go Go.RowKit Tryz
open Tryz renaming prog→zP
open Go renaming World→Qm,Value→Qn,Calls→Qo,TypeId→Qp,Ending→Qq
open Go.RowKit renaming Below→Qr,Hid→Qs
instance{p:Prop}[h:Decidable p]:Decidable (Hid p):=h
def zk{p:Prop}(h:p:=by kernel_rfl):p:=h
def zo{p:Prop}(h:p:=by omega):p:=h
def zm{p:Prop}(h:p:=by simp):p:=h
def zd{p:Prop}(h:p:=by decide):p:=h
def zx{α:Sort _}(x:α): ∃y,y=x:=⟨_,rfl⟩
def zy{α:Sort _}(x:α): ∃y,Hid (y=x):=⟨_,rfl⟩
def zh{p:Prop}(h:p):Hid p:=h
def zr{B:Nat}{w:World}:Below B w w:=Below.refl _ _
def zl{n:Nat}:n<=n:=Nat.le_refl _
def zp{n:Nat}:0<=n:=Nat.zero_le _
def zv{p:Prop}[Decidable p](h:decide p=true:=by kernel_rfl):p:=of_decide_eq_true h
def zu{p:Prop}(h:p:=by simp;omega):p:=h
def zB{p:Prop}(h:p:=by simp<;>omega):p:=h
def zj{p:Prop}(h:p:=by assumption):p:=h
def zi(p:Prop)[Decidable p](h: ¬p:=by omega):decide p=false:=decide_eq_false h
def zc(p:Prop)[Decidable p](h:p:=by omega):decide p=true:=decide_eq_true h
def zw{w:World}{B:Nat}{t:TypeId}{k:Nat}:w.ownsRow B t k (.slice none 0 0) 0 []:=World.ownsRow_nil _ _ _ _
instance:Coe Int Value:=⟨λx=> .int .i64 x⟩
instance:CoeTail Nat Value:=⟨λb=> .pointer (some ⟨b,0,none⟩)⟩
instance:Coe ByteArray Value:=⟨λx=> .string x⟩
instance:Coe Unit Value:=⟨λ_=> .int .i64 0⟩
instance:Coe Bool Value:=⟨λx=> .bool x⟩
structure Z0 where
def z0:Z0:={}
instance:Coe Z0 Value:=⟨λ_=> .slice none 0 0⟩
def No:=@Nat.lt_of_lt_of_le
def Np:=@List.getElem?_eq_getElem
def Nq:=@Nat.le_trans
def Nr:=@List.getD_eq_getElem?_getD
def Ns:=@of_decide_eq_true
def Nt:=@Nat.le_refl
def Nu:=@Go.heap_alloc_new
def Nv:=@Go.World.block_lt_of_cell?
def Nw:=@List.length_append
def Nx:=@Nat.zero_le
def Ny:=@List.getElem?_eq_some_iff
def Nz:=@List.mem_singleton
def NA:=@Go.cell_of_row
def NB:=@if_neg
def NC:=@List.take_of_length_le
def ND:=@Go.RowKit.Below.refl
def NE:=@List.take_succ_eq_append_getElem
def NF:=@Go.rounds_succ
def NG:=@Go.bodyPost_ret
def NH:=@if_pos
def NI:=@List.eq_nil_of_length_eq_zero
def NJ:=@List.not_mem_nil
def NK:=@List.flatMap_append
def NL:=@List.mem_cons
def NM:=@Go.wp_loop_rounds
def NN:=@List.setIfInBounds_toArray
def NO:=@List.mem_of_getElem?
def NP:=@List.length_take
def NQ:=@decide_eq_false
def NR:=@Nat.add_zero
def NS:=@List.length_singleton
def NT:=@List.getElem_mem
def NU:=@List.map_append
def NV:=@decide_eq_true
def NW:=@List.length_cons
def NX:=@List.append_assoc
def NY:=@ByteArray.getElem_eq_getElem_data
def NZ:=@List.flatMap_cons
def Oa:=@Option.some.inj
def Ob:=@List.all_eq_true
def Oc:=@Nat.le_of_lt
def Od:=@beq_eq_false_iff_ne
def Oe:=@List.set_cons_succ
def Of:=@congrArg
def Og:=@List.mem_append
def Oh:=@ByteArray.size_append
def Oi:=@Nat.ne_of_lt
def Oj:=@List.mem_cons_of_mem
def Ok:=@Nat.zero_add
def Ol:=@List.nil_append
def Om:=@List.set_cons_zero
def On:=@decide_eq_true_eq
def Oo:=@List.drop_eq_getElem_cons
def Oq:=@List.map_cons
def Ot:=@Bool.and_eq_true
def Ou:=@or_false
def Ov:=@Int.le_refl
def Ow:=@List.getElem?_take_of_lt
def Ox:=@Nat.zero_mul
def Oy:=@Nat.not_lt_zero
def Oz:=@Go.RowKit.Below.heap_alloc
def OA:=@List.take_length
def OB:=@List.length_drop
def OC:=@List.length_map
def OD:=@ByteArray.size_extract
def OE:=@List.getElem?_append_right
def OF:=@Option.some.injEq
def OG:=@List.getElem?_map
def OH:=@List.take_add_one
def OI:=@List.mem_map
def OJ:=@List.append_nil
def OK:=@List.cons_append
def OL:=@List.getElem?_drop
def OM:=@List.length_nil
def ON:=@Array.getElem?_eq_some_iff
def OO:=@List.mem_of_mem_take
def OP:=@List.take_append_of_le_length
def OQ:=@List.drop_of_length_le
def OR:=@List.mem_cons_self
def OS:=@List.foldl_append
def OT:=@List.mem_range
def OU:=@Nat.add_assoc
def OV:=@List.getElem?_append_left
def OW:=@List.getElem?_eq_none
def OX:=@Nat.lt_irrefl
def OY:=@Nat.min_eq_left
def OZ:=@Go.Oper.upon_value
def Pa:=@List.ext_getElem
def Pb:=@Prod.mk.injEq
def Pc:=@List.mem_map_of_mem
def Pd:=@Nat.le_succ
def Pe:=@Array.getElem?_setIfInBounds_ne
def Pf:=@List.mem_or_eq_of_mem_set
def Pg:=@List.length_replicate
def Ph:=@List.eraseIdx_sublist
def Pi:=@ByteArray.data_append
def Pj:=@List.getElem?_set_ne
def Pk:=@List.getElem?_replicate
def Pl:=@Go.World.size_alloc
def Pm:=@Nat.succ_ne_zero
def Pn:=@List.drop_zero
def Po:=@List.take_append_drop
def Pp:=@List.cons.injEq
def Pq:=@List.getElem?_set
def Pr:=@Go.wpList_plain
def Ps:=@List.length_pos_iff
def Pt:=@Array.toList_inj
def Pu:=@List.getElem?_set_self
def Pv:=@List.getElem?_take
def Pw:=@Nat.xor_lt_two_pow
def Px:=@List.drop_eq_nil_of_le
def Py:=@List.map_map
def Pz:=@Bool.or_eq_true
def PA:=@Bool.eq_iff_iff
def PB:=@List.range_succ
def PC:=@Int.mul_ediv_add_emod
def PD:=@List.nodup_append
def PE:=@List.mem_iff_getElem
def PF:=@Go.RowKit.Below.block
def PG:=@List.getElem?_of_mem
def PH:=@Array.mk.injEq
def PI:=@Int.tmod_eq_emod_of_nonneg
def PJ:=@Option.bind_some
def PK:=@List.getElem_set
def PL:=@Array.getElem?_eq_getElem
def PM:=@List.replicate_succ
def PN:=@Array.length_toList
def PO:=@Array.toList_filter
def PQ:=@List.getD_cons_zero
def PR:=@List.getElem?_range
def PT:=@Bool.true_and
def PU:=@List.all_cons
def PX:=@List.nodup_cons
def PY:=@Option.map_some
def PZ:=@Int.emod_lt_of_pos
def Qa:=@Nat.lt_or_ge
def Qb:=@Bool.not_eq_true'
def Qc:=@List.ext_getElem?
def Qd:=@Int.toNat_natCast
def Qe:=@Nat.le_of_lt_succ
def Qf:=@Go.World.frozen?_setCell
def Qg:=@ByteArray.ext
def Qh:=@Int.emod_nonneg
def Qi:=@List.all_append
def Qj:=@List.foldl_cons
def Qk:=@List.map_set
def Ql:=@Nat.sub_self
abbrev Qt:=ByteArray
def aQ(t:Int):Prop:= -9223372036854775808<=t/\t<=9223372036854775807
def Ei{a:Type}{P:List a->Prop}(e:P [])(f: ∀l x,P l->P (l++ [x]))(l:List a):P l:=by
 have c: ∀m:List a,P m.reverse:=by
  intro m
  induction m with
  |nil=>exact e
  |cons x m d=>rw[List.reverse_cons];exact f _ _ d
 have:=c l.reverse
 rwa [List.reverse_reverse] at this
def bp{k:IntKind}{a b:Int}(c:a=b):Ending.returned (.int k a)= .returned (.int k b):=by rw[c]
def bu{a b:Bool}(c:a=b):Ending.returned (.bool a)= .returned (.bool b):=by rw[c]
def aK(w:Qm)(v:Qn)(e:Qq)(w':Qm):Prop:=e= .returned v/\Qs (Qr w.heap.size w w')
def zb{P:Program}{f:FuncId}{args:Array Qn}{w:Qm}{v:Qn}{Q:Qq->Qm->Prop}(h:Qo P f args w (aK w v))(k: ∀w',Qs (Qr w.heap.size w w')->Q (.returned v) w'):Qo P f args w Q:=h.mono λe w' h=>by obtain⟨rfl,h⟩:=h;exact k _ h
def aL{B:Nat}{a w:Qm}{o:Obj}(c:Qr B a w)(d:B<=w.heap.size):Qr B a (w.alloc o):=c.alloc d o
def ao{B:Nat}{a w:Qm}{p:Addr}{u:Qn}(c:Qr B a w)(d:B<=p.block):Qr B a (w.setCell p u):=c.setCell d u
def ai{a b c:Qm}(d:Qr a.heap.size a b)(e:Qr b.heap.size b c):Qr a.heap.size a c:=d.trans (e.mono d.size)
def dU{B:Nat}{a w:Qm}(c:Qr B a w)(n:Nat):Qr B a (w.drewN n):=⟨c.os,c.tape,c.output,c.size,c.block⟩
def aI{B:Nat}{a w w':Qm}(c:Qr B a w)(k:Qr w.heap.size w w')(d:B<=w.heap.size):Qr B a w':=c.trans (k.mono d)
def ab{w w':Qm}{b:Nat}{o:Obj}(a:w.heap[b]?=some o)(c:Qr w.heap.size w w'):w'.heap[b]?=some o:=by
 rw[c.block b (ON.1 a).1];exact a
def aa{w:Qm}{b:Nat}{o:Obj}(a:w.heap[b]?=some o):b<w.heap.size:=(ON.1 a).1
def ad{w:Qm}{b o:Nat}{a:Array Qn}{T:Qp}(c:w.heap[b]?=some (.cells a T (0,0))):w.frozen? ⟨b,o,none⟩=false:=by
 simp[World.frozen?,c]
def al{w:Qm}{b i:Nat}{a:Array Qn}{T:Qp}{fr:Nat×Nat}(c:w.heap[b]?=some (.cells a T fr))(v:Qn):
 (w.setCell ⟨b,i,none⟩ v).heap[b]?=some (.cells (a.setIfInBounds i v) T fr):=by
 rw[setCell_eq_setRow w b i a T fr v c,setRow_heap w b a _ T fr c]
def af{w:Qm}{a:Addr}{b:Nat}(v:Qn)(c:b≠a.block):(w.setCell a v).heap[b]?=w.heap[b]?:=Below.heap_setCell w a v b c
def aE(w:Qm)(v:Qn)(l:List Int):Prop:=
 ∃a c,v= .slice a l.length c/\(∀x∈l,-9223372036854775808<=x/\x<=9223372036854775807)/\(l.length<=c/\c<=9223372036854775807)/\
  (l≠ []-> ∃b o,a=some ⟨b,o,none⟩/\b<w.heap.size/\ ∀j,j<l.length->w.cell? ⟨b,o+j,none⟩=some (.int .i64 (l.getD j 0)))
def aE.below{w w':Qm}{v:Qn}{l:List Int}(r:aE w v l)(e:Qr w.heap.size w w'):aE w' v l:=by
 obtain⟨a,c,f,g,h,i⟩:=r;refine⟨a,c,f,g,h,λk=>?_⟩;obtain⟨b,o,m,d,n⟩:=i k;exact⟨b,o,m,No d e.size,λj q=>(e.cell (p:=⟨b,o+j,none⟩) d).trans (n j q)⟩
def uY{w:Qm}{b c:Nat}{l:List Int}{a:Array Qn}{T:Qp}{fr:Nat×Nat}(d:w.heap[b]?=some (.cells a T fr))(f:a=(l.map (Value.int .i64)).toArray)(g: ∀x∈l,-9223372036854775808<=x/\x<=9223372036854775807)(h:l.length<=c/\c<=9223372036854775807):
 aE w (.slice (some ⟨b,0,none⟩) l.length c) l:=by
 subst f;refine⟨_,_,rfl,g,h,λ_=>⟨b,0,rfl,aa d,λj e=>?_⟩⟩;rw[NA w b _ _ _ _ d];simp[e]
def ag{w:Qm}{o:Obj}{b:Nat}(a:w.heap.size=b):(w.alloc o).heap[b]?=some o:=by subst a;exact Nu _ _
def eC{w:Qm}{b c:Nat}{l:List Int}{a:Array Qn}{T:Qp}{fr:Nat×Nat}(d:w.heap.size=b)(e:a=(l.map (Value.int .i64)).toArray)(f: ∀x∈l,-9223372036854775808<=x/\x<=9223372036854775807)(g:l.length<=c/\c<=9223372036854775807):
 aE (w.alloc (.cells a T fr)) (.slice (some ⟨b,0,none⟩) l.length c) l:=uY (ag d) e f g
def fg(w:Qm):aE w (.slice none 0 0) []:=⟨none,0,rfl,zm,zm,λa=>absurd rfl a⟩
def kl{l:List Int}{k:Nat}(a:k<l.length):l.take (k+1)=l.take k++ [l.getD k 0]:=by
 rw[NE a];simp[a]
def ak(w:Qm)(o:Obj):Qr w.heap.size w (w.alloc o):=aL zr zl
def ze{w:Qm}{o:Obj}:Qr w.heap.size w (w.alloc o):=ak _ _
def pK(b o j:Nat):(⟨b,o,none⟩:Addr).add j=⟨b,o+j,none⟩:=by unfold Addr.add;split<;>simp_all
def iA(w:Qm)(v:Qn)(T:Qp): ∀(j:Nat) (u:Qn),[v][j]?=some u->(w.alloc (.cells #[v] T)).cell? ((⟨w.heap.size,0,none⟩:Addr).add j)=some u:=by
 intro j u a;cases j with
 |zero=>show(w.alloc (.cells #[v] T)).cell? ⟨w.heap.size,0,none⟩=some u;rw[World.cell?_alloc_at _ _ _ _ rfl];simpa using a
 |succ j=>simp at a
def ae{w w':Qm}{p:Addr}{v:Qn}(a:w.cell? p=some v)(c:Qr w.heap.size w w'):w'.cell? p=some v:=(c.cell (Nv w _ a)).trans a
def aS{w w':Qm}{B k n:Nat}{e:Qp}{v:Qn}{c:List Qn}(l:w.ownsRow B e k v n c)(m:Qr w.heap.size w w'):w'.ownsRow B e k v n c:=by
 obtain⟨d,a⟩:=l;refine⟨d,?_⟩;rcases a with a|⟨g,cap,f,a,h,i,j⟩
 ·exact .inl a
 ·exact .inr ⟨g,cap,f,a,h,ab i m,j⟩
def az{w:Qm}{B k n:Nat}{e:Qp}{v:Qn}{d:List Qn}(f:w.ownsRow B e k v n d): ∃a c,v= .slice a n c:=by
 rcases f.2 with⟨rfl,rfl⟩|⟨g,cap,h,rfl,_⟩
 ·exact⟨_,_,rfl⟩
 ·exact⟨_,_,rfl⟩
def iB{B k:Nat}{w w':Qm}{o:Obj}(a:Qr B w w')(c:k<B)(d:w.heap[k]?=some o):w'.heap[k]?=some o:=(a.block k c).trans d
def kM(w w':Qm):Prop:=Qr w.heap.size w w'
inductive br(R:Qm->Qm->Prop) where
 |val (c:Qn)
 |rel (p:Qn->Qm->Prop) (hp: ∀v w w',p v w->R w w'->p v w')
 |new (own:Qn->Nat->Prop) (q:Qn->Qm->Prop) (hq: ∀v w w',q v w->R w w'->q v w') (hlt: ∀v w b,q v w->own v b->b<w.heap.size)
section
variable{R:Qm->Qm->Prop}
def br.ok:br R->Qn->Qm->Prop
 | .val c,v,_=>v=c
 | .rel p _,v,w=>p v w
 | .new _ q _ _,v,w=>q v w
def br.fresh:br R->Qm->Qn->Prop
 | .new own _ _ _,w,v=> ∀b,own v b->w.heap.size<=b
 |_,_,_=>True
def br.ok_below{s:br R}{v:Qn}{w w':Qm}(a:s.ok v w)(d:R w w'):s.ok v w':=by
 cases s with
 |val c=>exact a
 |rel p e=>exact e _ _ _ a d
 |new own q hq f=>exact hq _ _ _ a d
def BD(o:Oper)(j:Nat):Bool:=o.after.toList.any λe=>decide (e.on=j)&&Region.binds .any e
def cM{a:Type}:List a->Nat->Option a
 | [],_=>none
 |x::_,0=>some x
 |_::l,k+1=>cM l k
def eD{a:Type}: ∀(l:List a) (i:Nat),cM l i=l[i]?
 | [],_=>by simp[cM]
 |_::_,0=>rfl
 |_::l,k+1=>by rw[cM,eD l k];rfl
def JU(w:Qm):Option (br R)->Option Qn->Prop
 |some s,some v=>s.ok v w
 |_,_=>True
def gf(specs:List (br R))(a:List Qn)(w:Qm)(j:Nat):Prop:=JU w (cM specs j) (cM a j)
def uZ{specs:List (br R)}{a:List Qn}{w:Qm}{j:Nat}(c: ∀(s:br R) (v:Qn),specs[j]?=some s->a[j]?=some v->s.ok v w):gf specs a w j:=by
 unfold gf;rw[eD,eD];cases h1:specs[j]? with
 |none=>exact trivial
 |some s=>cases h2:a[j]? with
  |none=>exact trivial
  |some v=>exact c s v h1 h2
def gB:Option (br R)->Option (br R)->Option Qn->Option Qn->Prop
 |some (.new own _ _ _),some (.new a _ _ _),some u,some v=> ∀b,own u b->a v b->False
 |_,_,_,_=>True
def km(specs:List (br R))(a:List Qn)(i j:Nat):Prop:=gB (cM specs i) (cM specs j) (cM a i) (cM a j)
def pL{s t:br R}{u v:Qn}{w:Qm}(e:s.ok u w)(f:t.fresh w v):gB (some s) (some t) (some u) (some v):=by
 cases s with
 |new own q hq a=>cases t with
  |new g r h i=>
   intro b c d;have j:=a _ _ _ e c;have k:=f b d;omega
  |_=>exact trivial
 |_=>cases t<;>exact trivial
def lQ{t:Option (br R)}{u v:Option Qn}:gB none t u v:=by
 cases t with
 |none=>exact trivial
 |some t=>cases t<;>exact trivial
def ld{s:br R}{u v:Option Qn}:gB (some s) none u v:=by cases s<;>exact trivial
def pM{s t:br R}{v:Option Qn}:gB (some s) (some t) none v:=by cases s<;>cases t<;>exact trivial
def pN{s t:br R}{u:Qn}:gB (some s) (some t) (some u) none:=by cases s<;>cases t<;>exact trivial
def tH{s t:br R}{u v:Qn}(d:gB (some s) (some t) (some u) (some v)):gB (some t) (some s) (some v) (some u):=by
 cases s<;>cases t<;>first|exact trivial|exact λb a c=>d b c a
def MW(P:Program)(ops:Array Oper)(S:Qm->Prop)(specs:List (br R))(o:Oper)(s:br R)(c:List Qn)(F:Act):Prop:=
 ∀w,S w->Shut (∀j,BD o j=true->gf specs c w j)-> ∀a:Act->Qm->Prop,Shut (∀b v w',b=F.put o.dst v->s.ok v w'->s.fresh w v->R w w'->a b w')->
  if Region.wanted o (yielded ops F.tmps)=true then Oper.wp P o F w a (λ_ _ _=>False) else a (F.put o.dst undef) w
def JV(P:Program)(ops:Array Oper)(S:Qm->Prop)(specs:List (br R))(o:Oper)(c:Qn)(d:List Qn)(F:Act):Prop:=
 ∀w,S w->Shut (∀j,BD o j=true->gf specs d w j)-> ∀a:Act->Qm->Prop,Shut (∀b w',b=F.put o.dst c->R w w'->a b w')->
  if Region.wanted o (yielded ops F.tmps)=true then Oper.wp P o F w a (λ_ _ _=>False) else a (F.put o.dst undef) w
def Mq(P:Program)(ops:Array Oper)(S:Qm->Prop)(specs:List (br R))(o:Oper)(p:Qn->Qm->Prop)(c:List Qn)(F:Act):Prop:=
 ∀w,S w->Shut (∀j,BD o j=true->gf specs c w j)-> ∀a:Act->Qm->Prop,Shut (∀b v w',b=F.put o.dst v->p v w'->R w w'->a b w')->
  if Region.wanted o (yielded ops F.tmps)=true then Oper.wp P o F w a (λ_ _ _=>False) else a (F.put o.dst undef) w
def sb(P:Program)(ops:Array Oper)(Q:Exit->Act->Qm->Prop)(S:Qm->Prop)(specs:List (br R))(tail:List Oper):List Oper->List (br R)->List Qn->Act->Prop
 | [],_,d,a=> ∀w,S w->(∀j,gf specs d w j)->(∀i j,i≠j->km specs d i j)->wpList P ops Q tail a w
 |o::os,s::e,d,a=>MW P ops S specs o s d a/\
  match s with
  | .val c=>sb P ops Q S specs tail os e (d++ [c]) (a.put o.dst c)
  |_=> ∀v,sb P ops Q S specs tail os e (d++ [v]) (a.put o.dst v)
 |_::_,[],_,_=>False
def db:List Oper->List Qn->Act->Act
 |o::os,v::c,a=>db os c (a.put o.dst v)
 |_,_,a=>a
variable{P:Program}{ops:Array Oper}{Q:Exit->Act->Qm->Prop}{S:Qm->Prop}{specs:List (br R)}{tail:List Oper}
def dc(P:Program)(ops:Array Oper)(Q:Exit->Act->Qm->Prop)(S:Qm->Prop)(specs:List (br R))(n i:Nat)(c:List Qn)(a:Act):Prop:=
 sb P ops Q S specs (ops.toList.drop n) ((ops.toList.take n).drop i) (specs.drop i) c a
def pO{l:List Oper}{n i:Nat}{o:Oper}(d:decide (i<n)=true)(a:cM l i=some o):(l.take n).drop i=o::(l.take n).drop (i+1):=by
 have e:i<n:=Ns d;rw[eD] at a;have f:i<l.length:=(Ny.1 a).1;have c:i<(l.take n).length:=by simp;omega
 rw[Oo c]
 congr 1
 rw[List.getElem_take];exact(Ny.1 a).2
def pP{l:List (br R)}{i:Nat}{s:br R}(a:cM l i=some s):l.drop i=s::l.drop (i+1):=by
 rw[eD] at a;have c:i<l.length:=(Ny.1 a).1;rw[Oo c]
 congr 1
 exact(Ny.1 a).2
def aw{n i:Nat}{o:Oper}{c:Qn}{d:List Qn}{a:Act}(l:decide (i<n)=true)(m:cM ops.toList i=some o)(p:cM specs i=some (.val c))(q:JV P ops S specs o c d a)
 (r:dc P ops Q S specs n (i+1) (d++ [c]) (a.put o.dst c)):dc P ops Q S specs n i d a:=by
 unfold dc;rw[pO l m,pP p];exact⟨λw e f g h=>q w e f g (λb w' j k=>h b c w' j rfl trivial k),r⟩
def aT{n i:Nat}{o:Oper}{p:Qn->Qm->Prop}{c: ∀v w w',p v w->R w w'->p v w'}{d:List Qn}{a:Act}(l:decide (i<n)=true)(m:cM ops.toList i=some o)(q:cM specs i=some (.rel p c))
 (r:Mq P ops S specs o p d a) (s: ∀v,dc P ops Q S specs n (i+1) (d++ [v]) (a.put o.dst v)):dc P ops Q S specs n i d a:=by
 unfold dc;rw[pO l m,pP q];exact⟨λw e f g h=>r w e f g (λb v w' j c k=>h b v w' j c trivial k),s⟩
def pQ{n:Nat}{c:List Qn}{a:Act}(d: ∀w,S w->Shut (∀j,gf specs c w j)->Shut (∀i j,i≠j->km specs c i j)->wpList P ops Q (ops.toList.drop n) a w):dc P ops Q S specs n n c a:=by
 unfold dc;rw[OQ (show(ops.toList.take n).length<=n by simp;omega)];exact d
def tI{n:Nat}{c:List Qn}{a:Act}(f: ∀w,S w->Shut (∀j,gf specs c w j)->wpList P ops Q (ops.toList.drop n) a w):dc P ops Q S specs n n c a:=pQ λw d e _=>f w d e
def Ej{n:Nat}{c:List Qn}{a:Act}(f:decide (ops.size<=n)=true)(g: ∀w,S w->Shut (∀j,gf specs c w j)->Q .normal a w):dc P ops Q S specs n n c a:=by
 refine tI λw d e=>?_
 rw[OQ (by have:=Ns f;simpa using this)];exact g w d e
def em{n:Nat}{c:Oper}(a:cM ops.toList n=some c):ops.toList.drop n=c::ops.toList.drop (n+1):=by
 rw[eD] at a;have d:n<ops.toList.length:=(Ny.1 a).1;rw[Oo d,(Ny.1 a).2]
def lR{n:Nat}(a:ops.size=n):ops.toList.drop n= []:=OQ zu
def BE{n:Nat}{c:Oper}{d:List Qn}{a:Act}(g:decide (ops.size=n+1)=true)(h:cM ops.toList n=some c)(i: ∀w,S w->Shut (∀j,gf specs d w j)->wpList P ops Q [c] a w):dc P ops Q S specs n n d a:=by
 refine tI λw e f=>?_
 rw[em h,lR (Ns g)];exact i w e f
def kn{n:Nat}{d e:Oper}{c:List Qn}{a:Act}(k:decide (ops.size=n+1+1)=true)(l:cM ops.toList n=some d)(m:cM ops.toList (n+1)=some e)(o: ∀w,S w->Shut (∀j,gf specs c w j)->Shut (∀i j,i≠j->km specs c i j)->wpList P ops Q [d,e] a w):dc P ops Q S specs n n c a:=by
 refine pQ λw f g h=>?_
 rw[em l,em m,lR (Ns k)];exact o w f g h
def mT: ∀(os:List Oper) (e:List (br R)) (f:List Qn) (a:Act),sb P ops Q S specs tail os e f a->
 ∀d:List Qn,d.length=os.length->(∀(j:Nat) (c:Qn),e[j]?=some (br.val c)->j<os.length->d[j]?=some c)->
  (∀i o s,os[i]?=some o->e[i]?=some s->MW P ops S specs o s (f++d.take i) (db (os.take i) (d.take i) a))/\
  os.length<=e.length/\
  (∀w,S w->(∀j,gf specs (f++d) w j)->(∀i j,i≠j->km specs (f++d) i j)->wpList P ops Q tail (db os d a) w)
 | [],e,f,a,h,d,g,_=>by
  obtain rfl:d= []:=NI g;refine⟨λi o s k=>by simp at k,zm,?_⟩;intro w n l m;rw[OJ] at l m;exact h w n l m
 |o::os,[],f,a,h,d,g,_=>h.elim
 |o::os,s::e,f,a,h,d,g,t=>by
  match d,g with
  |u::d,g=>
   obtain⟨v,q⟩:=h;have x:d.length=os.length:=by simpa using g
   have y: ∀(j:Nat) (c:Qn),e[j]?=some (br.val c)->j<os.length->d[j]?=some c:=λj c A B=>by have:=t (j+1) c (by simpa using A) (by simpa using B);simpa using this
   have C:sb P ops Q S specs tail os e (f++ [u]) (a.put o.dst u):=by
    cases s with
    |val c=>
     have:u=c:=by have:=t 0 c rfl zm;simpa using this
     subst this;exact q
    |rel p=>exact q u
    |new own=>exact q u
   obtain⟨D,F,E⟩:=mT os e (f++ [u]) (a.put o.dst u) C d x y;refine⟨?_,by simp;omega,?_⟩
   ·intro i o' s' k r
    cases i with
    |zero=>
     simp only[List.getElem?_cons_zero,OF] at k r;subst k r;simpa[db] using v
    |succ i=>
     have:=D i o' s' (by simpa using k) (by simpa using r);simpa[db,NX] using this
   ·intro w n l m
    have:=E w n (by simpa[NX] using l) (by simpa[NX] using m);simpa[db] using this
def cN:List Oper->List Qn->List Bool->Act->Act
 |o::os,v::c,b::bs,a=>cN os c bs (if b=true then a.put o.dst v else a)
 |_,_,_,a=>a
def gg(t:Tmp)(a b:Act):Prop:=a.tmps[t]?=b.tmps[t]?/\a.tmps.size=b.tmps.size
def jE(a:Act)(d:Option Tmp)(v:Qn):(a.put d v).tmps.size=a.tmps.size:=by cases d<;>simp[Act.put]
def eL(a:Act)(d:Option Tmp)(v:Qn):(a.put d v).defers=a.defers:=by cases d<;>simp[Act.put]
def gg.put{t:Tmp}{a b:Act}(c:gg t a b)(d:Option Tmp)(v:Qn):gg t (a.put d v) (b.put d v):=by
 refine⟨?_,by rw[jE,jE];exact c.2⟩;cases d with
 |none=>exact c.1
 |some d=>simp only[Act.put,Array.getElem?_setIfInBounds];rw[c.1,c.2]
def gg.left{t:Tmp}{a b:Act}(c:gg t a b){d:Option Tmp}(g:d≠some t)(v:Qn):gg t (a.put d v) b:=by
 refine⟨?_,by rw[jE];exact c.2⟩;cases d with
 |none=>exact c.1
 |some d=>
  have f:d≠t:=λe=>g (by rw[e])
  simp only[Act.put,Pe f];exact c.1
def gg.symm{t:Tmp}{a b:Act}(c:gg t a b):gg t b a:=⟨c.1.symm,c.2.symm⟩
def gg.right{t:Tmp}{a b:Act}(c:gg t a b){d:Option Tmp}(e:d≠some t)(v:Qn):gg t a (b.put d v):=(c.symm.left e v).symm
def xE(t:Tmp): ∀(os:List Oper) (d:List Qn) (bs:List Bool) (i:Nat) (a b:Act),gg t a b->d.length=os.length->bs.length=os.length->
 (∀(j:Nat) (o:Oper),os[j]?=some o->o.dst=some t->j<i/\bs[j]?=some true)->gg t (cN os d bs a) (db (os.take i) (d.take i) b):=by
 intro os
 induction os with
 |nil=>intro d bs i a b f _ _ _;simpa[cN,db] using f
 |cons o os n=>
  intro d bs i a b f p q g;cases d with
  |nil=>simp at p
  |cons u d=>
  cases bs with
  |nil=>simp at q
  |cons c bs=>
  have r:d.length=os.length:=by simpa using p
  have s:bs.length=os.length:=by simpa using q
  cases i with
  |zero=>
   have h:o.dst≠some t:=λe=>absurd (g 0 o rfl e).1 zo
   have k:gg t (if c=true then a.put o.dst u else a) b:=by
    split
    ·exact f.left h u
    ·exact f
   have:=n d bs 0 _ b k r s (λj o' l m=>absurd (g (j+1) o' (by simpa using l) m).1 zo);simpa[cN,db] using this
  |succ i=>
   have k:gg t (if c=true then a.put o.dst u else a) (b.put o.dst u):=by
    split
    ·exact f.put _ _
    ·rename_i v
     have h:o.dst≠some t:=λe=>v (by simpa using(g 0 o rfl e).2)
     exact f.right h u
   have:=n d bs i _ _ k r s (λj o' l m=>by
    have:=g (j+1) o' (by simpa using l) m;exact⟨zo,by simpa using this.2⟩)
   simpa[cN,db] using this
def sc(d:Option Tmp)(v:Qn): ∀(os:List Oper) (e:List Qn) (bs:List Bool) (a:Act),
 (∀o∈os,∀t,d=some t->o.dst≠some t)->(cN os e bs a).put d v=cN os e bs (a.put d v)
 | [],_,_,_,_=>by simp[cN]
 |_::_,[],_,_,_=>by simp[cN]
 |_::_,_::_,[],_,_=>by simp[cN]
 |o::os,u::e,c::bs,a,f=>by
  simp only[cN];rw[sc d v os e bs _ (λo g=>f o (Oj _ g))]
  congr 1
  split
  ·exact(Act.put_comm a v u (f o (OR ..))).symm
  ·rfl
def BF(v:Qn): ∀(os:List Oper) (d:List Qn) (bs:List Bool) (i:Nat) (o:Oper) (a:Act),d.length=os.length->bs.length=os.length->
 os[i]?=some o->bs[i]?=some false->(∀(j:Nat) (o':Oper),os[j]?=some o'->j≠i-> ∀t,o.dst=some t->o'.dst≠some t)->
 (cN os d bs a).put o.dst v=cN os (d.set i v) (bs.set i true) a:=by
 intro os
 induction os with
 |nil=>intro d bs i o a _ _ e;simp at e
 |cons o' os m=>
  intro d bs i o a g h e k l;cases d with
  |nil=>simp at g
  |cons u d=>
  cases bs with
  |nil=>simp at h
  |cons c bs=>
  have n:d.length=os.length:=by simpa using g
  have p:bs.length=os.length:=by simpa using h
  cases i with
  |zero=>
   obtain rfl:o'=o:=by simpa using e
   obtain rfl:c=false:=by simpa using k
   simp only[cN,Om,if_true];rw[sc _ _ _ _ _ _ (λo e t q=>?_)]
   ·simp
   ·obtain⟨j,f,rfl⟩:=PE.1 e
    exact l (j+1) _ (by simp[f]) zo t q
  |succ i=>
   simp only[cN,Oe];exact m d bs i o _ n p (by simpa using e) (by simpa using k) (λj r f s=>l (j+1) r (by simpa using f) zo)
def sd: ∀(os:List Oper) (d:List Qn) (bs:List Bool) (a:Act),d.length=os.length->bs.length=os.length->(∀b∈bs,b=true)->cN os d bs a=db os d a
 | [],_,_,_,_,_,_=>by simp[cN,db]
 |o::os,u::d,c::bs,a,g,e,f=>by
  simp only[cN,db];rw[NH (f c (OR ..))];exact sd os d bs _ (by simpa using g) (by simpa using e) (λb e=>f b (Oj _ e))
def pR: ∀(os:List Oper) (d:List Qn) (bs:List Bool) (a:Act),(cN os d bs a).tmps.size=a.tmps.size/\(cN os d bs a).defers=a.defers
 | [],_,_,_=>by simp[cN]
 |_::_,[],_,_=>by simp[cN]
 |_::_,_::_,[],_=>by simp[cN]
 |o::os,u::d,c::bs,a=>by
  simp only[cN];obtain⟨e,f⟩:=pR os d bs (if c=true then a.put o.dst u else a);rw[e,f];split
  ·exact⟨jE ..,eL ..⟩
  ·exact⟨rfl,rfl⟩
def oo: ∀(os:List Oper) (c:List Qn) (a:Act),(db os c a).tmps.size=a.tmps.size/\(db os c a).defers=a.defers
 | [],_,_=>by simp[db]
 |_::_,[],_=>by simp[db]
 |o::os,u::c,a=>by
  simp only[db];obtain⟨d,e⟩:=oo os c (a.put o.dst u);rw[d,e];exact⟨jE ..,eL ..⟩
def Am{a b:Act}{d:Option Tmp}{u v:Qn}(g:a.tmps.size=b.tmps.size)(f:b.put d u=b.put d v):a.put d u=a.put d v:=by
 cases d with
 |none=>rfl
 |some d=>
  rcases Qa d b.tmps.size with c|c
  ·have e:(b.put (some d) u).tmps[d]?=(b.put (some d) v).tmps[d]?:=by rw[f]
   simp[Act.put,c] at e;rw[e]
  ·have: ∀x,a.put (some d) x=a:=λx=>by
    simp only[Act.put];rw[Array.setIfInBounds_eq_of_size_le zo]
   rw[this,this]
def tJ{o:Oper}{a b:Act}(e: ∀t∈o.looksAt ops,a.tmps[t]?=b.tmps[t]?):
 Region.wanted o (yielded ops a.tmps)=Region.wanted o (yielded ops b.tmps):=by
 unfold Region.wanted;cases hg:o.guard with
 |none=>rfl
 |some c=>
  obtain⟨g,want⟩:=c
  have d:yielded ops a.tmps g=yielded ops b.tmps g:=by
   unfold yielded;cases ht:(ops[g]?).bind (·.dst) with
   |none=>rfl
   |some t=>
    have:=e t (by simp[Oper.looksAt,hg,ht]);simp only[PJ,this]
  simp only[d]
def tK{o:Oper}(e: ∀c b,o.op≠ .select c b){a b:Act}(f: ∀t∈o.looksAt ops,a.tmps[t]?=b.tmps[t]?):execOp a.eval o=execOp b.eval o:=
 execOp_congr o e λx d=>by
  cases x with
  |tmp t=>
   have:=f t (List.mem_append_left _ (List.mem_filterMap.2 ⟨.tmp t,by simpa using d,rfl⟩));simp only[Act.eval,Array.getD_eq_getD_getElem?,this]
  |_=>rfl
def pS: ∀(n:Nat) (os:List Oper) (c:List Qn) (a:Act),cN os c (List.replicate n false) a=a
 |0,os,c,a=>by cases os<;>cases c<;>simp[cN]
 |n+1,[],c,a=>by simp[cN]
 |n+1,o::os,[],a=>by simp[cN]
 |n+1,o::os,u::c,a=>by
  rw[PM];simp only[cN];rw[pS n os c];simp
def se(ops:Array Oper)(n:Nat):Bool:=
 Region.noSelect ops&&decide (n<=ops.size)&&
 (decide (n=ops.size)||(Region.sinkB .any ops n&&Region.chainB .any ops n&&decide (n<ops.size)))&&
 Region.seqB .any ops (ops.size-n) n (Array.replicate n true++Array.replicate (ops.size-n) false)&&
 (List.range n).all λi=>match ops[i]? with
  |some o=>(o.after.all λe=> !Region.binds .any e||decide (e.on<i))&&(List.range n).all λj=>match (ops[j]?).bind (·.dst) with
   |some d=>(decide (j=i)||o.dst !=some d)&&(!(o.looksAt ops).contains d||(decide (j<i)&&BD o j))
   |none=>true
  |none=>true
def pT{n:Nat}(c:se ops n=true):
 Region.noSelect ops=true/\n<=ops.size/\(decide (n=ops.size)||(Region.sinkB .any ops n&&Region.chainB .any ops n&&decide (n<ops.size)))=true/\
 Region.seqB .any ops (ops.size-n) n (Array.replicate n true++Array.replicate (ops.size-n) false)=true/\
 ∀(i:Nat) (o:Oper),i<n->ops[i]?=some o->
  (∀e∈o.after,Region.binds .any e=true->e.on<i)/\
  ∀(j:Nat) (o':Oper) (d:Tmp),j<n->ops[j]?=some o'->o'.dst=some d->(j≠i->o.dst≠some d)/\
   (d∈o.looksAt ops->j<i/\BD o j=true):=by
 simp only[se,Ot] at c;obtain⟨⟨⟨⟨h,k⟩,l⟩,hq⟩,c⟩:=c;refine⟨h,by simpa using k,by simpa using l,hq,λi o m p=>?_⟩;have f:=Ob.1 c i (OT.2 m);rw[p] at f;simp only[Ot] at f;obtain⟨q,r⟩:=f;refine⟨λe g s=>?_,λj o' d t u v=>?_⟩
 ·have:=Array.all_eq_true_iff_forall_mem.1 q e g
  rw[s] at this;simpa using this
 ·have:=Ob.1 r j (OT.2 t)
  rw[u] at this;simp only[PJ,v,Ot,Pz,On,bne_iff_ne,Qb,ne_eq] at this;obtain⟨w,a⟩:=this;refine⟨λx=>w.resolve_left x,λg=>?_⟩;rcases a with a|a
  ·have:(o.looksAt ops).contains d=true:=by simpa using g
   rw[a] at this;cases this
  ·exact a
def vb{o:Oper}{F a:Act}{w:Qm}{s:br R}{k:Act->Qm->Prop}(g:execOp F.eval o=execOp a.eval o)(q:a.tmps.size=F.tmps.size)
 (t: ∀v w',s.ok v w'->s.fresh w v->R w w'->k (a.put o.dst v) w')
 (h:Oper.wp P o F w (λb w'=> ∃v,b=F.put o.dst v/\s.ok v w'/\s.fresh w v/\R w w') (λ_ _ _=>False)):Oper.wp P o a w k Q:=by
 have go: ∀v w',(∃v',F.put o.dst v=F.put o.dst v'/\s.ok v' w'/\s.fresh w v'/\R w w')->k (a.put o.dst v) w':=λv w' ⟨v',j,i,l,m⟩=>by
  rw[Am q j];exact t v' w' i l m
 unfold Oper.wp at*;rw[g] at h
 generalize (execOp a.eval o).run P w=r at*
 cases r with
 |ok n w'=>
  cases n with
  |value v=>exact go _ _ h
  |skip=>exact go _ _ h
  |defer d=>
   obtain⟨v,j,_⟩:=h;have i:=Of Act.defers j;rw[eL,eL] at i;have:=Of List.length i;simp at this
  |enter f args=>
   refine Calls.mono h (λe p g=>?_);cases e with
   |returned v=>exact go _ _ g
   |panicked c=>exact g.elim
   |outgrown=>obtain⟨_,_,g⟩:=g;exact g.elim
  |row r args=>exact Rows.mono h (λv p g=>go _ _ g)
  |_=>exact h.elim
 |halt x w'=>cases x<;>first|exact h.elim|exact False.elim h
structure At(ops:Array Oper)(S:Qm->Prop)(specs:List (br R))(n:Nat)(a0:Act)(us:List Qn)(bs:List Bool)(listed:Array Bool)(a:Act)(w:Qm):Prop where
 ulen:us.length=n
 blen:bs.length=n
 act:a=cN (ops.toList.take n) us bs a0
 listed_eq:listed=bs.toArray++Array.replicate (ops.size-n) false
 world:S w
 facts: ∀(j:Nat) (s:br R) (v:Qn),specs[j]?=some s->us[j]?=some v->bs[j]?=some true->s.ok v w
 vals: ∀(j:Nat) (c:Qn),specs[j]?=some (br.val c)->j<n->us[j]?=some c
 head:HeadInv .any ops n listed
 apart: ∀(i j:Nat) (s t:br R) (u v:Qn),i≠j->specs[i]?=some s->specs[j]?=some t->us[i]?=some u->us[j]?=some v->bs[i]?=some true->bs[j]?=some true->gB (some s) (some t) (some u) (some v)
def oq: ∀(bs:List Bool),(∀b∈bs,b=true)\/ ∃i:Nat,bs[i]?=some false/\ ∀j:Nat,j<i->bs[j]?=some true
 | []=> .inl zm
 |false::bs=> .inr ⟨0,rfl,λj a=>absurd a zo⟩
 |true::bs=>by
  rcases oq bs with c|⟨i,d,e⟩
  ·exact .inl (by simpa using c)
  ·refine .inr ⟨i+1,by simpa using d,λj a=>?_⟩
   cases j with
   |zero=>rfl
   |succ j=>simpa using e j zo
def gS{bs:List Bool}{m j:Nat}(d:Bool)(a:j<bs.length):(bs.toArray++Array.replicate m false).getD j d=bs[j]:=by
 rw[Array.getD_eq_getD_getElem?,Array.getElem?_append_left (by simpa using a)];simp[a]
def jt: ∀(bs:List Bool) (i:Nat),bs[i]?=some false->(bs.set i true).count false+1=bs.count false
 | [],i,a=>by simp at a
 |b::bs,0,a=>by
  obtain rfl:b=false:=by simpa using a
  simp
 |b::bs,i+1,a=>by
  have:=jt bs i (by simpa using a);simp only[Oe,List.count_cons];omega
def mU{bs:List Bool}{n:Nat}(a:bs.length=n)(c: ∀b∈bs,b=true):bs.toArray=Array.replicate n true:=by
 have:bs=List.replicate n true:=List.eq_replicate_iff.2 ⟨a,c⟩;rw[this];simp
def HJ{n:Nat}{a0:Act}(hok:se ops n=true)(hSt: ∀w w',S w->R w w'->S w')
 (h:sb P ops Q S specs (ops.toList.drop n) (ops.toList.take n) specs [] a0):
 ∀(k:Nat) (us:List Qn) (bs:List Bool) (listed:Array Bool) (a:Act) (w:Qm),At ops S specs n a0 us bs listed a w->bs.count false=k->
  wpAny P .any ops Q (k+(ops.size-n)) listed a w:=by
 obtain⟨hsel,hn,ht,hseq,hops⟩:=pT hok;have hlen:(ops.toList.take n).length=n:=by simp;omega
 intro k
 induction k with
 |zero=>
  intro us bs listed a w hAt hc;obtain⟨hu,hb,rfl,rfl,hS,hf,hv,hH,hap⟩:=hAt
  have hall: ∀b∈bs,b=true:=λb hb=>by
   cases b with
   |true=>rfl
   |false=>exact absurd (List.count_pos_iff.2 hb) zo
  rw[sd _ _ _ _ (by rw[hu,hlen]) (by rw[hb,hlen]) hall,mU hb hall,Ok];obtain⟨_,_,h3⟩:=mT _ _ _ _ h us (by rw[hu,hlen]) (λj c hj hjl=>hv j c hj (by rw[hlen] at hjl;exact hjl))
  have hW:=h3 w hS (λj=>uZ λs v hs hv'=>hf j s v hs (by simpa using hv') (by
   have hj:j<us.length:=by have:=(Ny.1 hv').1;simpa using this
   have hjb:j<bs.length:=zo;rw[Np hjb,hall _ (NT hjb)])) (λi j hij=>by
   have hdone: ∀k v,us[k]?=some v->bs[k]?=some true:=λk v hk=>by
    have hj:k<us.length:=(Ny.1 hk).1;have hjb:k<bs.length:=zo;rw[Np hjb,hall _ (NT hjb)]
   unfold km;rw[eD,eD,eD,eD,Ol];cases h1:specs[i]? with
   |none=>exact lQ
   |some s1=>cases h2:specs[j]? with
    |none=>exact ld
    |some s2=>cases h3:us[i]? with
     |none=>exact pM
     |some u1=>cases h4:us[j]? with
      |none=>exact pN
      |some u2=>exact hap i j s1 s2 u1 u2 hij h1 h2 h3 h4 (hdone _ _ h3) (hdone _ _ h4))
  have hdl:(ops.toList.drop n).length=ops.size-n:=zm;rw[<-hdl];rw[<-hdl] at hseq;exact wpAny_of_seq (ops.toList.drop n) n _ _ w (λj=>by simp[OL]) hseq hW
 |succ k ih=>
  intro us bs listed a w hAt hc;obtain⟨hu,hb,rfl,rfl,hS,hf,hv,hH,hap⟩:=hAt;rw[(zo:k+1+(ops.size-n)=(k+(ops.size-n))+1)];rcases oq bs with hall|⟨i0,hi0,hbef⟩
  ·exfalso
   have:bs.count false=0:=List.count_eq_zero.2 (λhm=>by have:=hall _ hm;cases this);omega
  have hi0n:i0<n:=by have:=(Ny.1 hi0).1;omega
  have hun0:(bs.toArray++Array.replicate (ops.size-n) false).getD i0 true=false:=by
   rw[gS _ zo];have:=(Ny.1 hi0).2;exact this
  obtain⟨o0,ho0⟩: ∃o,ops[i0]?=some o:=⟨_,PL zo⟩
  have hr0:i0∈Region.ready .any ops (bs.toArray++Array.replicate (ops.size-n) false):=by
   refine mem_ready.2 ⟨hun0,o0,ho0,λe he hbd=>?_⟩;have hlt:=(hops i0 o0 hi0n ho0).1 e he hbd;rw[gS _ zo];exact(Ny.1 (hbef _ hlt)).2
  refine⟨λh0=>(by rw[h0] at hr0;cases hr0),λi hi=>?_⟩
  have hin:i<n:=by
   simp only[Pz,Ot,On] at ht;rcases ht with ht|⟨⟨hs,hch⟩,hlt⟩
   ·obtain⟨_,oj,hoj,_⟩:=mem_ready.1 hi
    have:=(ON.1 hoj).1;omega
   ·rcases Qa i n with h'|h'
    ·exact h'
    ·exact absurd hi (tail_waits hs hch hlt hH _ i0 rfl hi0n hun0 i h')
  obtain⟨hun,o,ho,hdeps⟩:=mem_ready.1 hi
  have hbi:bs[i]?=some false:=by
   rw[gS _ zo] at hun;rw[Np zo,hun]
  have hoT:(ops.toList.take n)[i]?=some o:=by rw[Ow hin];simpa using ho
  obtain⟨h1,h2,_⟩:=mT _ _ _ _ h us (by rw[hu,hlen]) (λj c hj hjl=>hv j c hj (by rw[hlen] at hjl;exact hjl));obtain⟨s,hs⟩: ∃s,specs[i]?=some s:=⟨_,Np (by rw[hlen] at h2;omega)⟩;have hobl:=h1 i o s hoT hs;obtain⟨hback,hdst⟩:=hops i o hin ho
  have hagree: ∀t∈o.looksAt ops,gg t (cN (ops.toList.take n) us bs a0) (db ((ops.toList.take n).take i) (us.take i) a0):=λt htl=>by
   refine xE t _ us bs i a0 a0 ⟨rfl,rfl⟩ (by rw[hu,hlen]) (by rw[hb,hlen]) (λj o' ho' hd'=>?_);have hjn:j<n:=by have:=(Ny.1 ho').1;omega
   have ho'':ops[j]?=some o':=by rw[Ow hjn] at ho';simpa using ho'
   obtain⟨hlt,hd⟩:=(hdst j o' t hjn ho'' hd').2 htl;refine⟨hlt,?_⟩;obtain⟨e,hmem,hq2⟩:=List.any_eq_true.1 hd;replace hmem:e∈o.after:=by simpa using hmem
   simp only[Ot,On] at hq2;have:=hdeps e hmem hq2.2;rw[hq2.1,gS _ zo] at this;rw[Np zo,this]
  have hnos:=Region.noSelect_spec hsel i o
  have JA:execOp (db ((ops.toList.take n).take i) (us.take i) a0).eval o=execOp (cN (ops.toList.take n) us bs a0).eval o:=
   tK (ops:=ops) (λcs b=>hnos cs b ho) (λt htl=>(hagree t htl).1.symm)
  have hwant:Region.wanted o (yielded ops (cN (ops.toList.take n) us bs a0).tmps)=Region.wanted o (yielded ops (db ((ops.toList.take n).take i) (us.take i) a0).tmps):=
   tJ (λt htl=>(hagree t htl).1)
  have hrel: ∀j,BD o j=true->gf specs ([]++us.take i) w j:=λj hj=>uZ λs' v hs' hv'=>by
   obtain⟨e,hmem,hq2⟩:=List.any_eq_true.1 hj;replace hmem:e∈o.after:=by simpa using hmem
   simp only[Ot,On] at hq2;have hlt:=hback e hmem hq2.2;have hl:=hdeps e hmem hq2.2;rw[hq2.1] at hlt hl;rw[gS _ zo] at hl;refine hf j s' v hs' ?_ (by rw[Np zo,hl]);rw[Ol,Ow hlt] at hv';exact hv'
  have hsize:(cN (ops.toList.take n) us bs a0).tmps.size=(db ((ops.toList.take n).take i) (us.take i) a0).tmps.size:=by
   rw[(pR _ _ _ _).1,(oo _ _ _).1]
  have hgo: ∀v w',s.ok v w'->s.fresh w v->R w w'->wpAny P .any ops Q (k+(ops.size-n)) ((bs.toArray++Array.replicate (ops.size-n) false).setIfInBounds i true) ((cN (ops.toList.take n) us bs a0).put o.dst v) w':=λv w' hsv hfr hbel=>by
   refine ih (us.set i v) (bs.set i true) _ _ w' ⟨by simpa using hu,by simpa using hb,?_,?_,hSt w w' hS hbel,?_,?_,hH.set hi hin,?_⟩ (by have:=jt bs i hbi;omega)
   ·refine BF v _ us bs i o a0 (by rw[hu,hlen]) (by rw[hb,hlen]) hoT hbi (λj o' ho' hne t hto hto'=>?_)
    have hjn:j<n:=by have:=(Ny.1 ho').1;omega
    have ho'':ops[j]?=some o':=by rw[Ow hjn] at ho';simpa using ho'
    exact(hdst j o' t hjn ho'' hto').1 hne hto
   ·rw[Array.setIfInBounds_append_left zu];simp
   ·intro j s' v' hs' hv' hb'
    by_cases hij:i=j
    ·subst hij
     obtain rfl:s=s':=by rw[hs] at hs';exact Oa hs'
     obtain rfl:v=v':=by
      rw[Pu zo] at hv';exact Oa hv'
     exact hsv
    ·rw[Pj hij] at hv' hb'
     exact br.ok_below (hf j s' v' hs' hv' hb') hbel
   ·intro j c hj hjn
    by_cases hij:i=j
    ·subst hij
     obtain rfl:s= .val c:=by rw[hs] at hj;exact Oa hj
     rw[Pu zo,show v=c from hsv]
    ·rw[Pj hij];exact hv j c hj hjn
   ·intro j k s1 s2 u1 u2 hjk h1 h2 h3 h4 h5 h6
    by_cases hij:i=j
    ·subst hij
     obtain rfl:s=s1:=by rw[hs] at h1;exact Oa h1
     obtain rfl:v=u1:=by rw[Pu zo] at h3;exact Oa h3
     rw[Pj hjk] at h4 h6;exact tH (pL (hf k s2 u2 h2 h4 h6) hfr)
    ·by_cases hik:i=k
     ·subst hik
      obtain rfl:s=s2:=by rw[hs] at h2;exact Oa h2
      obtain rfl:v=u2:=by rw[Pu zo] at h4;exact Oa h4
      rw[Pj hij] at h3 h5;exact pL (hf j s1 u1 h1 h3 h5) hfr
     ·rw[Pj hij] at h3 h5
      rw[Pj hik] at h4 h6;exact hap j k s1 s2 u1 u2 hjk h1 h2 h3 h4 h5 h6
  unfold wpOp;simp only[ho];have hO:=hobl w hS hrel (λb w'=> ∃v,b=(db ((ops.toList.take n).take i) (us.take i) a0).put o.dst v/\s.ok v w'/\s.fresh w v/\R w w') (λb v w' h1 h2 h3 h4=>⟨v,h1,h2,h3,h4⟩);rw[hwant];split
  ·rename_i hw
   rw[NH hw] at hO;exact .inl (vb JA hsize hgo hO)
  ·rename_i hw
   rw[NB hw] at hO;obtain⟨v,h1,h2,h3,h4⟩:=hO;rw[Am hsize h1];exact hgo v w h2 h3 h4
def eE{id:Nat}{a:Act}{w:Qm}(n:Nat)(specs:List (br R))(m:P.follows .mixedOrders=true)(h:se ops n=true)(d:specs.length=n)
 (o: ∀w w',S w->R w w'->S w') (p:S w.drew) (q:dc P ops Q S specs n 0 [] a):(Code.region id ops true).wp P Q a w:=by
 refine wp_region_any m ?_;obtain⟨r,x,k,y,A⟩:=pT h;have:=HJ h o q n (specs.map fun| .val c=>c|_=>undef) (List.replicate n false) (Array.replicate ops.size false) a w.drew ?_ zm
 ·rw[(zo:n+(ops.size-n)=ops.size)] at this
  exact this
 ·refine⟨by simpa using d,zm,?_,?_,p,?_,?_,?_,?_⟩
  ·rw[pS]
  ·rw[show Array.replicate ops.size false=Array.replicate (n+(ops.size-n)) false by rw[(zo:n+(ops.size-n)=ops.size)],<-Array.replicate_append_replicate];simp
  ·intro j s v _ _ e
   rw[Pk] at e;split at e<;>simp at e
  ·intro j c g B
   rw[OG,g];rfl
  ·exact⟨zm,λj C g d=>(by rw[getD_replicate_false] at d;cases d),λt k l=>(by simp[l])⟩
  ·intro i j s t u v _ _ _ _ _ f
   rw[Pk] at f;split at f<;>simp at f
end
def iz(w w':Qm):Prop:=Qr w.heap.size w w'/\ ∀b o,b<w.heap.size->w'.cell? ⟨b,o,none⟩=w.cell? ⟨b,o,none⟩
def bP{w w':Qm}(a:Qr w.heap.size w w'):iz w w':=⟨a,λb o c=>a.cell (p:=⟨b,o,none⟩) c⟩
def ax(w:Qm):iz w w.drew:=bP zr.drew
def aj{w:Qm}: ∀a c,iz w a->kM a c->iz w c:=λa c d e=>bP (ai d.1 e)
def Ao(l:List Int):br kM:= .rel (λv w=>aE w v l) (λ_ _ _ a c=>a.below c)
def bq(w:Qm)(v:Qn)(l:List Qt):Prop:=
 ∃a c,v= .slice a l.length c/\(∀s∈l,s.size<=9223372036854775807)/\(l.length<=c/\c<=9223372036854775807)/\
  (l≠ []-> ∃b o,a=some ⟨b,o,none⟩/\b<w.heap.size/\ ∀j,j<l.length->w.cell? ⟨b,o+j,none⟩=some (.string (l.getD j ByteArray.empty)))
def bq.below{w w':Qm}{v:Qn}{l:List Qt}(r:bq w v l)(e:Qr w.heap.size w w'):bq w' v l:=by
 obtain⟨a,c,f,g,h,i⟩:=r;refine⟨a,c,f,g,h,λk=>?_⟩;obtain⟨b,o,m,d,n⟩:=i k;exact⟨b,o,m,No d e.size,λj q=>(e.cell (p:=⟨b,o+j,none⟩) d).trans (n j q)⟩
def cG{w:Qm}{b c:Nat}{l:List Qt}{a:Array Qn}{T:Qp}{fr:Nat×Nat}(e:w.heap.size=b)(f:a=(l.map Value.string).toArray)(g: ∀s∈l,s.size<=9223372036854775807)(h:l.length<=c/\c<=9223372036854775807):
 bq (w.alloc (.cells a T fr)) (.slice (some ⟨b,0,none⟩) l.length c) l:=by
 subst e;subst f;refine⟨_,_,rfl,g,h,λ_=>⟨w.heap.size,0,rfl,zm,λj d=>?_⟩⟩;rw[NA _ _ _ _ _ _ (Nu w _)];simp[d]
def mV(l:List Qt):br kM:= .rel (λv w=>bq w v l) (λ_ _ _ a c=>a.below c)
def BG(w:Qm):bq w (.slice none 0 0) []:=⟨none,0,rfl,zm,zm,λa=>absurd rfl a⟩
def ju:List Oper->Nat->Option Oper
 | [],_=>none
 |o::_,0=>some o
 |_::l,k+1=>ju l k
def pU: ∀(l:List Oper) (i:Nat),ju l i=l[i]?
 | [],_=>by simp[ju]
 |o::l,0=>rfl
 |o::l,k+1=>by rw[ju,pU l k];rfl
def iC{ops:Array Oper}{i:Nat}{o:Oper}(a:ju ops.toList i=some o):ops[i]?=some o:=by
 rw[pU] at a;simpa using a
section
variable{P:Program}{ops:Array Oper}{Q:Exit->Act->Qm->Prop}{md:Region.Mode}{S:Qm->Prop}{n:Nat}
def Ap(n:Nat)(a:Array Bool):Bool:=(List.range n).all λi=>a.getD i true
def xF{a:Array Bool}(d:Ap n a=true): ∀i,i<n->a.getD i true=true:=
 λi c=>Ob.1 d i (OT.2 c)
def cU(P:Program)(md:Region.Mode)(ops:Array Oper)(Q:Exit->Act->Qm->Prop)(S:Qm->Prop)(n:Nat):Nat->Array Bool->Act->Qm->Prop
 |0,c,a,w=>Region.ready md ops c= []/\Q .normal a w
 |fuel+1,c,a,w=>
  (Ap n c=true/\wpAny P md ops Q (fuel+1) c a w)\/
  ((Region.ready md ops c= []->Q .normal a w)/\
   ∀i∈Region.ready md ops c,wpOp P ops Q i (λd w'=>S w'/\cU P md ops Q S n fuel (c.setIfInBounds i true) d w') a w)
def pV: ∀(d:Nat) (e:Array Bool) (a:Act) (w:Qm),cU P md ops Q S n d e a w->wpAny P md ops Q d e a w
 |0,_,_,_,c=>c
 |d+1,_,_,_,c=>by
  rcases c with c|c
  ·exact c.2
  ·exact⟨c.1,λi f=>wpOp_mono (λg w' h=>pV d _ g w' h.2) (c.2 i f)⟩
def JW(md:Region.Mode)(ops:Array Oper)(n:Nat)(a:Array Bool):Bool:=
 decide (a.size=ops.size)&&
 ((List.range ops.size).all λj=> !a.getD j false||match ops[j]? with
  |some c=>c.after.all λe=> !Region.binds md e||a.getD e.on false
  |none=>true)&&
 (List.range ops.size).all λt=>decide (t<n)|| !a.getD t true
def BH{d:Array Bool}(a:JW md ops n d=true):HeadInv md ops n d:=by
 simp only[JW,Ot,On] at a;obtain⟨⟨f,g⟩,h⟩:=a;refine⟨f,λj p c i e k l=>?_,λt q m=>?_⟩
 ·have o:j<ops.size:=(ON.1 c).1
  have:=Ob.1 g j (OT.2 o);rw[c,i] at this;simp only[Bool.not_true,Bool.false_or] at this;have:=Array.all_eq_true_iff_forall_mem.1 this e k;rw[l] at this;simpa using this
 ·have:=Ob.1 h t (OT.2 m)
  simp only[Pz,On,Qb] at this;rcases this with a|a
  ·omega
  ·exact a
def xG{d:Array Bool}(a:(decide (n=ops.size)||(Region.sinkB md ops n&&Region.chainB md ops n&&decide (n<ops.size)))=true)(inv:HeadInv md ops n d)
 {i:Nat} (l:i<n) (m:d.getD i true=false) {j:Nat} (e:j∈Region.ready md ops d):j<n:=by
 simp only[Pz,Ot,On] at a;rcases a with a|⟨⟨f,g⟩,h⟩
 ·obtain⟨_,o,k,_⟩:=mem_ready.1 e
  have:=(ON.1 k).1;omega
 ·rcases Qa j n with c|c
  ·exact c
  ·exact absurd e (tail_waits f g h inv _ i rfl l m j c)
def tL{i:Nat}{p:Oper}{v:Qn}(C:ops[i]?=some p)(J: ∀(j:Nat) (o:Oper) q b,ops[j]?=some o->o.op≠ .select q b)
 (Z: ∀c a w,Q (.panic c) (a.put p.dst v) w->Q (.panic c) a w) (a0:i<n)
 (a1:(decide (n=ops.size)||(Region.sinkB md ops n&&Region.chainB md ops n&&decide (n<ops.size)))=true):
 ∀(r:Nat) (d:Array Bool) (a:Act) (w:Qm),HeadInv md ops n d->
  (∀j g,ops[j]?=some g->j≠i->d.getD j true=false->(∀e∈g.after,Region.binds md e=true->e.on≠i)->p.apart ops g=true)->
  i∈Region.ready md ops d->YieldsIf P ops S p v a->S w->
  cU P md ops Q S n r (d.setIfInBounds i true) (a.put p.dst v) w->cU P md ops Q S n (r+1) d a w:=by
 intro r
 induction r with
 |zero=>
  intro d a w _ _ h u s H;refine .inr ⟨λA=>(by rw[A] at h;cases h),λj l=>?_⟩;by_cases f:j=i
  ·subst f;exact u.wpOp C s ⟨s,H⟩
  ·have:=ready_mono l f
   rw[H.1] at this;cases this
 |succ r K=>
  intro d a w inv D h u s H;have t:=(mem_ready.1 h).1;refine .inr ⟨λA=>(by rw[A] at h;cases h),λj l=>?_⟩;by_cases f:j=i
  ·subst f;exact u.wpOp C s ⟨s,H⟩
  ·have E:j<n:=xG a1 inv a0 t l
   rcases H with⟨L,_⟩|H
   ·have m:=xF L j E
    rw[getD_set_ne true (Ne.symm f)] at m;have x:=(mem_ready.1 l).1;rw[m] at x;cases x
   ·have m:=H.2 j (ready_mono l f)
    obtain⟨F,g,B,M⟩:=mem_ready.1 l
    have N: ∀e∈g.after,Region.binds md e=true->e.on≠i:=λe O R T=>by
     have m:=M e O R;rw[T,getD_both t] at m;cases m
    have x:=wpOp_putIf B (D j g B f F N) (λq b=>J i p q b C) (λq b=>J j g q b B) Z u m
    have U: ∀k ok,ops[k]?=some ok->k≠i->(d.setIfInBounds j true).getD k true=false->
     (∀e∈ok.after,Region.binds md e=true->e.on≠i)->p.apart ops ok=true:=λk ok V W t X=>by
     refine D k ok V W ?_ X;by_cases I:j=k
     ·subst I;exact F
     ·rw[getD_set_ne true I] at t;exact t
    refine wpOp_mono (λY w' y=>⟨y.2.1,K (d.setIfInBounds j true) Y w' (inv.set l E) U (ready_mono h (Ne.symm f)) y.1 y.2.1 ?_⟩) x;rw[Array.setIfInBounds_comm _ _ f];exact y.2.2
def Aq(md:Region.Mode)(ops:Array Oper)(n:Nat)(a:Array Bool)(i:Nat):Bool:=
 Region.noSelect ops&&Region.free md ops a i&&(Region.ready md ops a).contains i&&decide (i<n)&&
 (decide (n=ops.size)||(Region.sinkB md ops n&&Region.chainB md ops n&&decide (n<ops.size)))&&JW md ops n a
def aX{i:Nat}{d:Oper}{v:Qn}{f:Nat}{e:Array Bool}{a:Act}{w:Qm}(g:ju ops.toList i=some d)(h:Aq md ops n e i=true)
 (p: ∀c a w,Q (.panic c) (a.put d.dst v) w->Q (.panic c) a w) (q:YieldsIf P ops S d v a) (r:S w)
 (s:cU P md ops Q S n f (e.setIfInBounds i true) (a.put d.dst v) w):cU P md ops Q S n (f+1) e a w:=by
 simp only[Aq,Ot] at h;obtain⟨⟨⟨⟨⟨j,k⟩,l⟩,m⟩,o⟩,inv⟩:=h;exact tL (iC g) (Region.noSelect_spec j) p (by simpa using m) o f e a w (BH inv) (Region.free_spec (iC g) k) (by simpa using l) q r s
def xH{i:Nat}{o:Oper}{h:Nat}{d:Array Bool}{a:Act}{w:Qm}(p:ju ops.toList i=some o)(k:Region.ready md ops d= [i])
 (q: ∀c:Act->Qm->Prop,Shut (∀a w,S w->(S w->cU P md ops Q S n h (d.setIfInBounds i true) a w)->c a w)->if Region.wanted o (yielded ops a.tmps)=true then Oper.wp P o a w c Q else c (a.put o.dst undef) w):
 cU P md ops Q S n (h+1) d a w:=by
 refine .inr ⟨(λe=>by rw[k] at e;cases e),λj f=>?_⟩;rw[k] at f;obtain rfl:j=i:=by simpa using f
 exact wpOp_step (iC p) (λc l=>q c (λa w g m=>l a w ⟨g,m g⟩))
def ou{l:List Oper}{o:Oper}{c:Array Bool}{a:Act}{w:Qm}(d:ops.toList.drop n=o::l)(e:Ap n c=true)(f:Region.seqB md ops (l.length+1) n c=true)
 (g:wpList P ops Q (o::l) a w):cU P md ops Q S n (l.length+1) c a w:=
 .inl ⟨e,wpAny_of_seq (o::l) n c a w (λj=>by rw[<-d];simp[OL]) f g⟩
def vd{c:Array Bool}{a:Act}{w:Qm}(d:Region.ready md ops c= [])(e:Q .normal a w):
 ∀f,cU P md ops Q S n f c a w
 |0=>⟨d,e⟩
 |_+1=> .inr ⟨λ_=>e,by rw[d];simp⟩
def aC{id:Nat}{a:Act}{w:Qm}(n:Nat)(c:P.follows .mixedOrders=true)(d:S w.drew)
 (e:S w.drew->cU P .any ops Q S n ops.size (Array.replicate ops.size false) a w.drew):(Code.region id ops true).wp P Q a w:=
 wp_region_any c (pV _ _ _ _ (e d))
end
def zS:(∀(a:Act) (i:Nat) (v:Qn),a.put (some i) v={a with tmps:=a.tmps.setIfInBounds i v})/\(∀(a:Act) (v:Qn),a.put none v=a)/\(∀(l:List Qn) (i:Nat) (v:Qn),l.toArray.setIfInBounds i v=(l.set i v).toArray)/\(∀(x:Qn) (l:List Qn) (v:Qn),(x::l).set 0 v=v::l)/\(∀(x:Qn) (l:List Qn) (i:Nat) (v:Qn),(x::l).set (i+1) v=x::l.set i v)/\(∀l:List Qn,[]++l=l)/\ ∀(x:Qn) (l m:List Qn),(x::l)++m=x::(l++m):=
 ⟨λ_ _ _=>rfl,λ_ _=>rfl,λl i v=>NN l i v,λ_ _ _=>rfl,λ_ _ _ _=>rfl,λ_=>rfl,λ_ _ _=>rfl⟩
section
variable{P:Program}{ops:Array Oper}{Q:Exit->Act->Qm->Prop}{md:Region.Mode}{S:Qm->Prop}{n:Nat}
def zT(i:Nat){oi:Oper}{v:Qn}{fuel:Nat}{listed:Array Bool}{a a':Act}{w:Qm}(h:cU P md ops Q S n fuel (listed.setIfInBounds i true) a' w)(hi:ju ops.toList i=some oi:=by rfl)(hb:Aq md ops n listed i=true:=by kernel_rfl)
 (hQ: ∀c a w,Q (.panic c) (a.put oi.dst v) w->Q (.panic c) a w:=by exact λ_ _ _ h=>h) (hy:YieldsIf P ops S oi v a:=by refine Or.inl ⟨by kernel_rfl,λW hSW=>?_⟩;have hcS:=hSW.2;go_simp;try(with_reducible rfl)) (hS:S w:=by assumption) (ha:a.put oi.dst v=a':=by simp only[zS];rfl):cU P md ops Q S n (fuel+1) listed a w:=
 aX hi hb hQ hy hS (by rw[ha];exact h)
def zU(i:Nat){oi:Oper}{v:Qn}{fuel:Nat}{listed:Array Bool}{a a':Act}{w:Qm}(h:cU P md ops Q S n fuel (listed.setIfInBounds i true) a' w)(hi:ju ops.toList i=some oi:=by rfl)(hb:Aq md ops n listed i=true:=by kernel_rfl)
 (hQ: ∀c a w,Q (.panic c) (a.put oi.dst v) w->Q (.panic c) a w:=by exact λ_ _ _ h=>h) (hy:YieldsIf P ops S oi v a:=by refine Or.inl ⟨by kernel_rfl,λW hSW=>?_⟩;(try dsimp only at hSW);go_simp;try(with_reducible rfl)) (hS:S w:=by assumption) (ha:a.put oi.dst v=a':=by simp only[zS];rfl):cU P md ops Q S n (fuel+1) listed a w:=
 aX hi hb hQ hy hS (by rw[ha];exact h)
def zO(i:Nat){o:Oper}{fuel:Nat}{listed:Array Bool}{a:Act}{w:Qm}(h: ∀K':Act->Qm->Prop,Shut (∀a w,S w->(S w->cU P md ops Q S n fuel (listed.setIfInBounds i true) a w)->K' a w)->if Region.wanted o (yielded ops a.tmps)=true then Oper.wp P o a w K' Q else K' (a.put o.dst undef) w)(ho:ju ops.toList i=some o:=by rfl)(hr:Region.ready md ops listed= [i]:=by kernel_rfl):
 cU P md ops Q S n (fuel+1) listed a w:=xH ho hr h
end
section
variable{R:Qm->Qm->Prop}{P:Program}{ops:Array Oper}{Q:Exit->Act->Qm->Prop}{S:Qm->Prop}{specs:List (br kM)}{tail:List Oper}
def zV{n i:Nat}{o:Oper}{c:Qn}{vs vs':List Qn}{a a':Act}(h2:dc P ops Q S specs n (i+1) vs' a')(hi:decide (i<n)=true:=by kernel_rfl)(ho:cM ops.toList i=some o:=by rfl)(hs:cM specs i=some (.val c):=by rfl)
 (h:JV P ops S specs o c vs a:=by intro w1 hS hd K hK;have hcS:=hS.2;go_simp;exact hK.out _ _ (by simp only[zS];rfl) (ND _ _)) (hv:vs++ [c]=vs':=by simp only[zS];rfl) (ha:a.put o.dst c=a':=by simp only[zS];rfl):dc P ops Q S specs n i vs a:=
 aw hi ho hs h (by rw[hv,ha];exact h2)
def zW{n i:Nat}{o:Oper}{c:Qn}{vs vs':List Qn}{a a':Act}(h2:dc P ops Q S specs n (i+1) vs' a')(hi:decide (i<n)=true:=by kernel_rfl)(ho:cM ops.toList i=some o:=by rfl)(hs:cM specs i=some (.val c):=by rfl)
 (h:JV P ops S specs o c vs a:=by intro w1 hS hd K hK;(try dsimp only at hS);go_simp;exact hK.out _ _ (by simp only[zS];rfl) (ND _ _)) (hv:vs++ [c]=vs':=by simp only[zS];rfl) (ha:a.put o.dst c=a':=by simp only[zS];rfl):dc P ops Q S specs n i vs a:=
 aw hi ho hs h (by rw[hv,ha];exact h2)
end
def zE{P:Program}{ops:Array Oper}{Q:Exit->Act->Qm->Prop}{md:Region.Mode}{S:Qm->Prop}{n fuel:Nat}{listed:Array Bool}{a a':Act}{w:Qm}{K:Act->Qm->Prop}(hK:Shut (∀a w,S w->(S w->cU P md ops Q S n fuel listed a w)->K a w))(h1:S w)(h:S w->cU P md ops Q S n fuel listed a' w)(ha:a=a':=by first|(simp only[zS];rfl)|rfl):K a w:=by subst ha;exact hK.out a w h1 h
abbrev zL(l:List Qn):List (br kM):=l.map br.val
def zI{P:Program}{ops:Array Oper}{Q:Exit->Act->Qm->Prop}{id:Nat}{a:Act}{w:Qm}(S:Qm->Prop)(n:Nat)(specs:List (br kM))(hSt: ∀w w',S w->kM w w'->S w')(hS:S w.drew)(h:dc P ops Q S specs n 0 [] a)(hm:P.follows .mixedOrders=true:=by kernel_rfl)(hok:se ops n=true:=by kernel_rfl)(hl:specs.length=n:=by rfl):(Code.region id ops true).wp P Q a w:=eE n specs hm hok hl hSt hS h
def zJ{P:Program}{ops:Array Oper}{Q:Exit->Act->Qm->Prop}{id:Nat}{a:Act}{w:Qm}(W:Qm)(n:Nat)(specs:List (br kM))(hS:iz W w.drew)(h:dc P ops Q (iz W) specs n 0 [] a)(hm:P.follows .mixedOrders=true:=by kernel_rfl)(hok:se ops n=true:=by kernel_rfl)(hl:specs.length=n:=by rfl):(Code.region id ops true).wp P Q a w:=eE n specs hm hok hl aj hS h
def zD{R:Qm->Qm->Prop}{P:Program}{ops:Array Oper}{Q:Exit->Act->Qm->Prop}{S:Qm->Prop}{specs:List (br R)}{n:Nat}{vs:List Qn}{a:Act}(h: ∀w,S w->Shut (∀j,gf specs vs w j)->Q .normal a w)(hn:decide (ops.size<=n)=true:=by kernel_rfl):dc P ops Q S specs n n vs a:=Ej hn h
def zA{R:Qm->Qm->Prop}{P:Program}{ops:Array Oper}{Q:Exit->Act->Qm->Prop}{S:Qm->Prop}{specs:List (br R)}{n:Nat}{o1:Oper}{vs:List Qn}{a:Act}(h: ∀w,S w->Shut (∀j,gf specs vs w j)->wpList P ops Q [o1] a w)(hn:decide (ops.size=n+1)=true:=by kernel_rfl)(h1:cM ops.toList n=some o1:=by rfl):dc P ops Q S specs n n vs a:=BE hn h1 h
def zH{P:Program}{md:Region.Mode}{ops:Array Oper}{Q:Exit->Act->Qm->Prop}{S:Qm->Prop}{n fuel:Nat}{listed:Array Bool}{a:Act}{w:Qm}(h:Q .normal a w)(hr:Region.ready md ops listed= []:=by kernel_rfl):cU P md ops Q S n fuel listed a w:=vd hr h fuel
def zF{P:Program}{md:Region.Mode}{ops:Array Oper}{Q:Exit->Act->Qm->Prop}{S:Qm->Prop}{n:Nat}{l:List Oper}{o:Oper}{listed:Array Bool}{a:Act}{w:Qm}(h:wpList P ops Q (o::l) a w)(hl:ops.toList.drop n=o::l:=by rfl)(hd:Ap n listed=true:=by kernel_rfl)(hB:Region.seqB md ops (l.length+1) n listed=true:=by kernel_rfl):cU P md ops Q S n (l.length+1) listed a w:=ou hl hd hB h
def zz{p:Prop}(h:p:=by simp only[zS];rfl):p:=h
def zg{p:Prop}(h:p:=by simp only[zS]<;>rfl):p:=h
def zq{w:Qm}:iz w w.drew:=ax _
def bR(t e:Int):Int:=
 if e<1 then t else if-9223372036854775808<=t-t%e then t-t%e else t-t%e+e
def gT(t e:Int):Int:=
 if e<1 then t else if t%e=0 then t else if t-t%e+e<=9223372036854775807 then t-t%e+e else t-t%e
def dL(now keep e:Int):Int:=
 if now<0\/keep<0\/e<1 then 0 else max (bR (now-keep) e) 0
def lS(t e:Int):Bool:=decide (1<=e/\t%e=0)
def ia(t e:Int)(g:1<=e):t.tmod e=if 0<=t\/t%e=0 then t%e else t%e-e:=by
 rw[Int.tmod_eq_emod];have d:e∣t↔t%e=0:=Int.dvd_iff_emod_eq_zero;have f:(e.natAbs:Int)=e:=zo;by_cases a:0<=t\/t%e=0
 ·rw[NH a,NH (by rcases a with a|a;exact .inl a;exact .inr (d.2 a))];simp
 ·rw[NB a,NB (by rintro(c|c);exact a (.inl c);exact a (.inr (d.1 c)))];omega
def ct(t e:Int)(d:1<=e):0<=t%e/\t%e<e/\(0<=t->t%e<=t):=
 ⟨Qh t zo,PZ t zo,λa=>by
  have:=PC t e;have c:0<=e*(t/e):=Int.mul_nonneg zo (Int.ediv_nonneg a zo);omega⟩
def lf(t e:Int)(a:1<=e): -e<t.tmod e/\t.tmod e<e/\(0<=t->0<=t.tmod e/\t.tmod e<=t)/\(t<=0->t.tmod e<=0/\t<=t.tmod e):=by
 have c:=ia t e a;have⟨i,j,f⟩:=ct t e a;have k:(-t).tmod e= -t.tmod e:=Int.neg_tmod t e;have g:=ia (-t) e a;have⟨l,m,h⟩:=ct (-t) e a;refine⟨?_,?_,?_,?_⟩
 ·split at c<;>omega
 ·split at c<;>omega
 ·intro d;rw[NH (.inl d)] at c;have:=f d;omega
 ·intro d;rw[NH (.inl zo)] at g;have:=h zo;omega
def BI(t e:Int)(d: -9223372036854775808<=t/\t<=9223372036854775807)(j:e<=9223372036854775807): -9223372036854775808<=gT t e/\gT t e<=9223372036854775807:=by
 unfold gT;by_cases a:e<1
 ·rw[NH a];exact d
 ·rw[NB a]
  by_cases c:t%e=0
  ·rw[NH c];exact d
  ·rw[NB c]
   have⟨h,i,f⟩:=ct t e zo;split
   ·omega
   ·by_cases g:0<=t
    ·have:=f g;omega
    ·omega
def gU(t e:Int)(f: -9223372036854775808<=t/\t<=9223372036854775807)(i:e<=9223372036854775807): -9223372036854775808<=bR t e/\bR t e<=9223372036854775807:=by
 unfold bR;by_cases a:e<1
 ·rw[NH a];exact f
 ·rw[NB a]
  have⟨g,h,c⟩:=ct t e zo;split
  ·omega
  ·by_cases d:0<=t
   ·have:=c d;omega
   ·omega
def mW(t e:Int)(w:Qm)(l:aQ t)(m:aQ e):
 Qo zP 45 #[t,e] w λx w'=>x= .returned (.int .i64 (bR t e))/\w=w':=by
 unfold aQ at l m;by_cases f:e<1
 ·go_enter func45,ntmps45
  go_wp2;go_ret;exact⟨bp (by unfold bR;rw[NH f]),rfl⟩
 ·have g:=lf t e zo
  have a:=ia t e zo;have h:=ct t e zo;obtain⟨n,o,c,d⟩:=g;obtain⟨p,q,i⟩:=h
  have B: -9223372036854775808<=t-t.tmod e/\t-t.tmod e<=9223372036854775807:=by
   by_cases j:0<=t
   ·have:=c j;omega
   ·have:=d zo;omega
  have k:=zh a;clear a c d i;go_enter func45,ntmps45;go_wp2
  all_goals go_ret
  all_goals
   refine⟨bp ?_,rfl⟩;have a:=k.out;unfold bR;rw[NB zo];split at a<;>split<;>omega
def Ek(t e:Int)(w:Qm)(l:aQ t)(m:aQ e):
 Qo zP 266 #[t,e] w λx w'=>x= .returned (.int .i64 (gT t e))/\w=w':=by
 unfold aQ at l m;by_cases f:e<1
 ·go_enter func266,ntmps266
  go_wp2;go_ret;exact⟨bp (by unfold gT;rw[NH f]),rfl⟩
 ·have g:=lf t e zo
  have a:=ia t e zo;have h:=ct t e zo;obtain⟨n,o,c,d⟩:=g;obtain⟨p,q,i⟩:=h
  have B: -9223372036854775808<=t-t.tmod e/\t-t.tmod e<=9223372036854775807:=by
   by_cases j:0<=t
   ·have:=c j;omega
   ·have:=d zo;omega
  have k:=zh a;clear a c d i;go_enter func266,ntmps266;go_wp2
  all_goals go_ret
  all_goals
   refine⟨bp ?_,rfl⟩;have a:=k.out;unfold gT;rw[NB zo];split at a<;>split<;>(try split)<;>omega
def tM(t e:Int)(w:Qm)(k:aQ t)(g:aQ e):
 Qo zP 177 #[t,e] w λx w'=>x= .returned (.bool (lS t e))/\w=w':=by
 unfold aQ at g;by_cases h:e<1
 ·go_enter func177,ntmps177
  go_wp2;go_ret;exact⟨bu (by unfold lS;simp;omega),rfl⟩
 ·have a:=ia t e zo
  have c:=ct t e zo;obtain⟨i,j,d⟩:=c;have f:=zh a;clear a d;go_enter func177,ntmps177;go_wp2
  all_goals go_ret
  all_goals
   refine⟨bu ?_,rfl⟩;have a:=f.out;unfold lS;rw[a,PA];simp;split<;>omega
def ee(e t:Int)(w:Qm)(k:aQ t)(g:aQ e):
 Qo zP 265 #[e,t] w λx w'=>x= .returned (.bool (lS t e))/\w=w':=by
 unfold aQ at g;by_cases h:e<1
 ·go_enter func265,ntmps265
  go_wp2;go_ret;exact⟨bu (by unfold lS;simp;omega),rfl⟩
 ·have a:=ia t e zo
  have c:=ct t e zo;obtain⟨i,j,d⟩:=c;have f:=zh a;clear a d;go_enter func265,ntmps265;go_wp2
  all_goals go_ret
  all_goals
   refine⟨bu ?_,rfl⟩;have a:=f.out;unfold lS;rw[a,PA];simp;split<;>omega
def El(t k e:Int)(w:Qm)(f:aQ t)(g:aQ k)(a:aQ e):
 Qo zP 44 #[t,k,e] w λx w'=>x= .returned (.int .i64 (dL t k e))/\w=w':=by
 have c:=a;unfold aQ at f g a;by_cases d:t<0\/k<0\/e<1
 ·have H:Qs (dL t k e=0):=zh (by unfold dL;rw[NH d])
  by_cases h:t<0
  ·go_enter func44,ntmps44
   go_wp2;go_ret;exact⟨bp H.symm,rfl⟩
  ·by_cases i:k<0
   ·go_enter func44,ntmps44
    go_wp2;go_ret;exact⟨bp H.symm,rfl⟩
   ·have j:e<1:=zo
    go_enter func44,ntmps44;go_wp2;go_ret;exact⟨bp H.symm,rfl⟩
 ·go_enter func44,ntmps44
  go_wp2_with (go_at_call 45;refine(mW _ _ _ (by unfold aQ;omega) c).mono ?_;rintro x w' ⟨rfl,rfl⟩)
  all_goals go_ret
  all_goals exact⟨bp (by unfold dL;rw[NB zo]<;>omega),rfl⟩
def eV(s:Qt)(w:Qm)(c:s.size<=281474976710656):Qo zP 159 #[s] w (aK w (.string s)):=by
 go_enter func159,ntmps159;go_wp2_with fail;refine(stringslite_Clone s w c).mono ?_;rintro e d ⟨rfl,a⟩;go_wp2;go_ret;exact⟨rfl,a⟩
def jv(b:UInt8):Qn:= .int .u8 b.toNat
def aq:Int->Nat->List UInt8
 |_,0=> []
 |v,n+1=>UInt8.ofNat (v%256).toNat::aq (v/256) n
def am: ∀(n:Nat) (v:Int),(aq v n).length=n
 |0,_=>rfl
 |n+1,v=>by simp[aq,am n]
def BJ:Int->Nat->Int
 |v,0=>v
 |v,n+1=>BJ (v/256) n
def sf: ∀(n:Nat) (v:Int),BJ v (n+1)=BJ v n/256
 |0,_=>rfl
 |n+1,v=>by rw[BJ,sf n];rfl
def kP: ∀(n:Nat) (v:Int),aq v (n+1)=aq v n++ [UInt8.ofNat (BJ v n%256).toNat]
 |0,v=>rfl
 |n+1,v=>by rw[aq,kP n];rfl
def Em(x:Int):Value.int .u8 (x%256)=jv (UInt8.ofNat (x%256).toNat):=by
 have a:(x%256).toNat<256:=zo;simp only[jv,UInt8.toNat_ofNat',Nat.mod_eq_of_lt a]
 congr 1;omega
def bw(w:Qm)(p:Nat)(e:Int)(l:List UInt8):Prop:=
 ∃a,w.heap[p]?=some (.cells #[e,a] 215)/\w.ownsRow p 5 1 a l.length (l.map jv)
def pW{w:Qm}{base e n p:Nat}{v:Qn}{f:List Qn}{h:Array Qn}{T:Qp}{fr:Nat×Nat}(i:w.ownsRow base e 1 v n f)(a:w.heap[p]?=some (.cells h T fr))(j:e≠T):v.ownBlock≠some p:=by
 rcases i.2 with⟨rfl,_⟩|⟨g,cap,k,rfl,_,c,_⟩
 ·simp[Value.ownBlock]
 ·simp only[Value.ownBlock]
  intro d;obtain rfl:g=p:=by simpa using d
  rw[c] at a;simp at a;exact j a.2.1
def bw.lt{w:Qm}{p:Nat}{e:Int}{l:List UInt8}(c:bw w p e l):p<w.heap.size:=by
 obtain⟨d,a,_⟩:=c;exact aa a
def bw.keep{w w':Qm}{p:Nat}{e:Int}{l:List UInt8}(d:bw w p e l)(a:Qr w.heap.size w w'):bw w' p e l:=by
 obtain⟨c,f,g⟩:=d;exact⟨c,ab f a,g.kept (row:=none) ⟨a.os,a.tape,a.output,a.size,λk h _=>a.block k h⟩ (by cases d:c.ownBlock<;>simp)⟩
def ef(w:Qm):bw (w.alloc (.cells #[(),z0] 215)) w.heap.size 0 []:=⟨_,Nu _ _,World.ownsRow_nil _ _ _ _⟩
def sg(w:Qm)(p k:Nat):Prop:= ∃a,w.cell? ⟨p,1,none⟩=some a/\a.ownBlock=some k
structure bi(p:Nat)(w w':Qm):Prop where
 os:w'.os=w.os
 tape:w'.tape=w.tape
 output:w'.output=w.output
 size:w.heap.size<=w'.heap.size
 block: ∀k,k<w.heap.size->k≠p-> ¬sg w p k->w'.heap[k]?=w.heap[k]?
 row: ∀k,sg w' p k->sg w p k\/w.heap.size<=k
def bi.refl(p:Nat)(w:Qm):bi p w w:=⟨rfl,rfl,rfl,Nt _,λ_ _ _ _=>rfl,λ_ a=> .inl a⟩
def bi.trans{p:Nat}{a b c:Qm}(d:bi p a b)(k:bi p b c):bi p a c:=
 ⟨k.os.trans d.os,k.tape.trans d.tape,k.output.trans d.output,Nq d.size k.size,
  λi f g e=>(k.block i (No f d.size) g (λj=>(d.row i j).elim e (λh=>zo))).trans (d.block i f g e),
  λi e=>(k.row i e).elim (d.row i) (λh=> .inr (Nq d.size h))⟩
def bi.of_below{p:Nat}{w w':Qm}(a:Qr w.heap.size w w')(g:p<w.heap.size):bi p w w':=
 ⟨a.os,a.tape,a.output,a.size,λk c _ _=>a.block k c,λk ⟨d,e,f⟩=> .inl ⟨d,(a.cell (p:=⟨p,1,none⟩) g)▸e,f⟩⟩
def bw.row{w:Qm}{p k:Nat}{e:Int}{l:List UInt8}(j:bw w p e l)(m:sg w p k):p<k/\k<w.heap.size:=by
 obtain⟨g,a,c⟩:=j;obtain⟨h,d,f⟩:=m;rw[NA w p _ _ _ _ a] at d;obtain rfl:g=h:=by simpa using d
 have:=c.lt k f;have n:k≠p:=λi=>pW c a zd (i▸f)
 omega
def bi.below{p:Nat}{w w':Qm}{e:Int}{l:List UInt8}(a:bi p w w')(c:bw w p e l):Qr p w w':=
 ⟨a.os,a.tape,a.output,a.size,λk f=>a.block k (by have:=c.lt;omega) zo (λd=>by have:=c.row d;omega)⟩
def jz(w:Qm)(p b:Nat):Prop:=b<w.heap.size/\b≠p/\ ¬sg w p b
def jz.step{p b:Nat}{w w':Qm}(a:jz w p b)(c:bi p w w'):jz w' p b:=
 ⟨No a.1 c.size,a.2.1,λd=>(c.row b d).elim a.2.2 (λe=>by have:=a.1;omega)⟩
def jz.heap{p b:Nat}{w w':Qm}(a:jz w p b)(c:bi p w w'):w'.heap[b]?=w.heap[b]?:=c.block b a.1 a.2.1 a.2.2
def jz.new{w:Qm}{p:Nat}{e:Int}{l:List UInt8}(a:bw w p e l)(o:Obj):jz (w.alloc o) p w.heap.size:=by
 refine⟨zm,by have:=a.lt;omega,λc=>?_⟩;have:=(a.keep (aL (o:=o) zr zl));obtain⟨d,f,g⟩:=c;have h:sg w p w.heap.size:=⟨d,by rw[<-f];exact((aL (o:=o) (ND _ w) zl).cell (p:=⟨p,1,none⟩) a.lt).symm,g⟩;have:=a.row h;omega
def En{wr c:Qm}{p:Nat}{e:Int}{a v':Qn}{l bs:List UInt8}{o:Obj}(h:wr.heap[p]?=some (.cells #[e,a] 215))(C:wr.ownsRow p 5 1 a l.length (l.map jv))
 (s:c.ownsRow p 5 1 v' (l.length+bs.length) (l.map jv++bs.map jv)) (f:(wr.alloc o).grownBy c a.ownBlock) (D:v'.ownBlock=a.ownBlock\/ ∃g,v'.ownBlock=some g/\wr.heap.size<=g):
 c.heap[p]?=some (.cells #[e,a] 215)/\bw (c.setCell ⟨p,1,none⟩ v') p e (l++bs)/\bi p wr (c.setCell ⟨p,1,none⟩ v'):=by
 have t:=aa h
 have i:c.heap[p]?=some (.cells #[e,a] 215):=by
  rw[f.block p zu (λj=>pW C h zd j.symm),Oz _ _ _ t];exact h
 have n:(c.setCell ⟨p,1,none⟩ v').heap[p]?=some (.cells #[e,v'] 215):=by rw[al i];rfl
 refine⟨i,⟨v',n,?_⟩,?_⟩
 ·rw[Nw,NU]
  exact s.kept (row:=some p) ⟨rfl,rfl,rfl,by simp[World.setCell],λk d v=>af _ (λj=>v (by simp[j]))⟩ (.inr (pW s i zd))
 ·have w:=f.size
  have q:wr.cell? ⟨p,1,none⟩=some a:=by rw[NA wr p _ _ _ _ h];rfl
  refine⟨f.os,f.tape,f.output,by simp[World.setCell] at w⊢;omega,λk d x y=>?_,λk ⟨u,r,d⟩=>?_⟩
  ·rw[af _ x,f.block k zu (λA=>y ⟨a,q,A.symm⟩),Oz _ _ _ d]
  ·rw[NA _ p _ _ _ _ n] at r
   obtain rfl:v'=u:=by simpa using r
   rcases D with m|⟨g,m,B⟩
   ·exact .inl ⟨a,q,by rw[<-m];exact d⟩
   ·rw[m] at d;obtain rfl:g=k:=by simpa using d
    exact .inr B
def tN:(zP.info? 5).map (λi=>(i.zero,i.size,i.bytes))=some (some (.int .u8 0),1,1):=zk
def lT(p n:Nat)(v e:Int)(l:List UInt8)(w:Qm)(Z:Qs (bw w p e l))(F:0<=v)(H:v<=18446744073709551615)(I:l.length+n<=1000000):
 Qo zP 192 #[p,.int .u64 v,(n:Int)] w (λJ w'=>J= .returned (.tuple #[])/\Qs (bw w' p e (l++aq v n))/\Qs (bi p w w')):=by
 obtain⟨K,M,N,O,P⟩:=info_parts tN;have Q:=zh (And.intro F H);have R:=zh I;have a0:(n:Int)<=1000000:=zo;clear F H I;go_enter func192,ntmps192;go_wp2;go_loopw [7,1] (λi x wr=> ∃(k:Nat) (a:Int),k<=n/\i= .int .i64 k/\x= .int .u64 a/\Qs (a=BJ v k)/\(0<=a/\a<=18446744073709551615)/\Qs (bw wr p e (l++aq v k))/\bi p w wr) (λi _ _=>n-(intOf i).toNat)
 case atStart=>exact⟨0,v,Nx _,rfl,rfl,zh rfl,Q,zh (by simpa[aq] using Z.out),bi.refl _ _⟩
 case round=>
  obtain⟨k,a,a1,rfl,rfl,m,a2,d,q⟩:=hrel;by_cases a3:k<n
  ·obtain⟨L,f⟩:=zy (l++aq v k)
   rw[<-f] at d;obtain⟨r,c,s⟩:=d.out;have c1:wr.cell? ⟨p,1,none⟩=some r:=by rw[NA wr p _ _ _ _ c];rfl
   have S:=zh c;have t:=zh s;have a4:=aa c;have a5:L.length<=1000000-1:=by have:=R.out;rw[f,Nw,am];omega
   have T:=zh (kP k v);have U:=zh (sf k v);have u:=zh (Em a);clear c s;go_wp2_with (at_builtin;refine wpList_append_lies _ rfl (.tmp 13) (.tmp 16) 134 rfl p 5 K (.int .u8 0) 1 1 underlying134 M N O P rfl zd _ _ _ rfl (t.alloc _) ⟨wr.heap.size,0,none⟩ 1 1 [.int .u8 (a%256)] rfl rfl ?c1 ?c2 zd ?c3 ?c4 ?c5 (wr.heap.size+1) ?c6 ?_)
   case c1=>exact iA _ _ _
   case c2=>simp[Value.oneCell']
   case c3=>unfold maxLen;omega
   case c4=>omega
   case c5=>simp;omega
   case c6=>simp
   intro g a6 y h A B V;rw[u.out] at h;obtain⟨j,C,D⟩:=En (bs:= [UInt8.ofNat (a%256).toNat]) S t h A (B.elim (λE=> .inl E.symm) (λE=> .inr ⟨g,rfl,zo⟩));have W:=zh C;have X:=q.trans D;have a7:y.cell? ⟨p,1,none⟩=some r:=by rw[NA y p _ _ _ _ j];rfl
   have a8:=ad (o:=1) j;clear h A B V j C D u;go_wp2;go_roundw
   case rel=>
    refine⟨k+1,_,zo,by go_num,rfl,zh (by rw[U,<-m]),zo,zh ?_,X⟩;rw[T,<-NX,<-f,<-m];exact W
   case measure=>simp[intOf];omega
  ·have Y:k=n:=zo
   subst Y;go_wp2
   go_end0
   exact⟨rfl,d,q⟩
def iY(w:Qm)(p:Nat)(v:Qn)(l:List Int):Prop:=aE w v l/\(l≠ []-> ∃b o n c,v= .slice (some ⟨b,o,none⟩) n c/\jz w p b)
def iY.step{w w':Qm}{p:Nat}{v:Qn}{l:List Int}(y:iY w p v l)(h:bi p w w'):iY w' p v l:=by
 obtain⟨⟨a,c,i,m,q,r⟩,k⟩:=y;refine⟨⟨a,c,i,m,q,λe=>?_⟩,λe=>?_⟩
 ·obtain⟨b,o,f,g,s⟩:=r e
  obtain⟨A,o',n',c',t,u⟩:=k e;subst i;injection t with d B C
  subst f;injection d with d;injection d with d D
  subst d;exact⟨b,o,rfl,No g h.size,λj x=>(World.cell?_of_block (u.heap h)).trans (s j x)⟩
 ·obtain⟨b,o,n,c,f,g⟩:=k e
  exact⟨b,o,n,c,f,g.step h⟩
def bH{w:Qm}{p b c:Nat}{e:Int}{l:List Int}{bs:List UInt8}{a:Array Qn}{T:Qp}{fr:Nat×Nat}(f:bw w p e bs)(d:w.heap.size=b)(g:a=(l.map (Value.int .i64)).toArray)(h: ∀x∈l,-9223372036854775808<=x/\x<=9223372036854775807)(i:l.length<=c/\c<=9223372036854775807):
 iY (w.alloc (.cells a T fr)) p (.slice (some ⟨b,0,none⟩) l.length c) l:=by
 refine⟨eC d g h i,λ_=>⟨b,0,_,_,rfl,?_⟩⟩;subst d;exact jz.new f _
def bM(x:Int):Int:=x%18446744073709551616
def mX(x:Int):IntKind.u64.wrap x=bM x:=by simp[IntKind.wrap,IntKind.bits,IntKind.signed,bM]
def aO(l:List UInt8):Qt:=⟨l.toArray⟩
def oW(l:List UInt8):strOfNums (l.map λb=>(b.toNat:Int))=aO l:=by
 have: ∀(x y:Qt),x.data.toList=y.data.toList->x=y:=λx y a=>by
  cases x;cases y;congr;exact Pt.1 a
 refine this _ _ ?_;rw[strOfNums_data];simp[aO,Function.comp_def]
def fh(p:Nat)(l:List UInt8)(w:Qm)(o:bw w p 0 l):
 Qo zP 126 #[p] w (aK w (.tuple #[.string (aO l),()])):=by
 obtain⟨m,a,c⟩:=o;have c0:w.cell? ⟨p,0,none⟩=some (.int .i64 0):=by rw[NA w p _ _ _ _ a];rfl
 have q:w.cell? ⟨p,1,none⟩=some m:=by rw[NA w p _ _ _ _ a];rfl
 rcases c.2 with⟨rfl,e⟩|⟨g,cap,r,rfl,_,f,_,_,_,h⟩
 ·have n:l= []:=NI e
  subst n;have j:=λw=>run_convert_bytes_nil (P:=zP) w 134 5 underlying134 underlying5 0 0 9 underlying9
  have s:ByteArray.empty=aO []:=rfl;clear a c e;go_enter func126,ntmps126;go_wp2;go_ret2;exact⟨rfl,ND _ _⟩
 ·have j:=run_convert_bytes_arg w 134 5 underlying134 underlying5 g 0 l.length cap (l.map λb=>(b.toNat:Int)) zm (λi k=>by
   rw[Ok,NA w g _ _ _ _ f];have d:=Of (λx=>x[i]?) h;simp only[Pv,Nat.mul_one,k,if_true,OG] at d;rw[Array.getElem?_toList] at d;rw[d];simp[k,jv]) 9 underlying9
  rw[oW] at j;clear a c f h;go_enter func126,ntmps126;go_wp2;go_ret2;exact⟨rfl,ND _ _⟩
def rQ(sz:Nat):Int:=if sz=4 then 4294967296 else if sz=2 then 65536 else 256
def tO(sz:Nat)(n:Int)(w:Qm)(e:sz=4\/sz=2\/sz=1)(f:0<=n)(a:n<rQ sz):
 Qo zP 191 #[(sz:Int),n] w (aK w (.int .i64 0)):=by
 rcases e with rfl|rfl|rfl
 ·have c:n<4294967296:=a
  have d:n/4294967296=0:=zo;clear a;go_enter func191,ntmps191;go_wp2;go_ret;exact⟨rfl,ND _ _⟩
 ·have c:n<65536:=a
  have d:n/65536=0:=zo;clear a;go_enter func191,ntmps191;go_wp2;go_ret;exact⟨rfl,ND _ _⟩
 ·have c:n<256:=a
  have d:n/256=0:=zo;clear a;go_enter func191,ntmps191;go_wp2;go_ret;exact⟨rfl,ND _ _⟩
def Eo{w:Qm}{b i:Nat}{d:Array Qn}{T:Qp}{fr:Nat×Nat}{v:Qn}(f:w.heap[b]?=some (.cells d T fr))(g:d[i]?=some v):Qr w.heap.size w (w.setCell ⟨b,i,none⟩ v):=by
 refine⟨rfl,rfl,rfl,by simp[World.setCell],λk h=>?_⟩;by_cases a:k=b
 ·subst a
  rw[al f,f]
  congr 2
  apply Array.ext
  ·simp
  ·intro j l c
   rw[Array.getElem_setIfInBounds (by simpa using c)];split
   ·rename_i e;subst e
    rw[PL (by simpa using c)] at g;exact(Oa g).symm
   ·rfl
 ·exact af _ a
def si(t:Nat)(c:Qn)(T:Qp)(w:Qm)(a:w.heap[t]?=some (.cells #[(),c] T)):
 Qo zP 190 #[t,()] w (aK w (.bool false)):=by
 have c0:w.cell? ⟨t,0,none⟩=some (.int .i64 0):=by rw[NA w t _ _ _ _ a];rfl
 have d:=ad (o:=0) a;have H:=zh (Eo (i:=0) a rfl);clear a;go_enter func190,ntmps190;go_wp2;go_ret;exact⟨rfl,H⟩
def aV(sz:Nat)(l:List Int):List UInt8:=l.flatMap λv=>aq v sz
def oX{sz:Nat}{l:List Int}{k:Nat}(a:k<l.length):aV sz (l.take (k+1))=aV sz (l.take k)++aq (l.getD k 0) sz:=by
 rw[kl a];simp[aV]
def aY(sz:Nat): ∀(l:List Int),(aV sz l).length=sz*l.length
 | []=>by simp[aV]
 |v::l=>by
  have:=aY sz l;simp only[aV] at this⊢;rw[NZ,Nw,am,this,NW,Nat.mul_succ];omega
def JX(sz:Nat):rQ sz<=4294967296:=by unfold rQ;split<;>(try split)<;>omega
def bw.fail{w:Qm}{p:Nat}{l:List UInt8}(d:bw w p 0 l):Qo zP 190 #[p,()] w (aK w (.bool false)):=by
 obtain⟨a,c,_⟩:=d;exact si p a _ w c
def dC(p sz:Nat)(v:Qn)(f:List Int)(l:List UInt8)(w:Qm)(N:Qs (bw w p 0 l))(O:Qs (iY w p v f))(P:Qs (sz=4\/sz=2\/sz=1))(c: ∀x∈f,0<=x/\x<rQ sz)(Q:l.length+sz*f.length<=1000000):
 Qo zP 124 #[p,(sz:Int),v] w (λR w'=>R= .returned (.tuple #[])/\Qs (bw w' p 0 (l++aV sz f))/\Qs (bi p w w')):=by
 obtain⟨⟨a,a7,S,_,T,_⟩,_⟩:=O.1,trivial;subst S;have U:=zh Q;have V:=zh c;have a8:f.length<=9223372036854775807:=zo;clear Q c T;go_enter func124,ntmps124;go_wp2;refine zI (λw'=>bw w' p 0 l/\bi p w w') 10 (zL [?_,?_,?_,?_,?_,?_,?_,?_,?_,?_]) (λn h g c=>⟨g.1.keep c,g.2.trans (bi.of_below c g.1.lt)⟩) (⟨N.keep zr.drew,bi.of_below zr.drew N.lt⟩) ?_;rotate_right
 iterate 7
  refine zW ?_
 refine aw zk rfl rfl ?_ ?_
 ·intro n d j s m;(try dsimp only at d);go_simp;refine zb (tO sz 0 _ P zo (by unfold rQ;split<;>(try split)<;>omega)) λh c=>?_;exact m.out _ _ zz c
 refine aw zk rfl rfl ?_ ?_
 ·intro n d j s m;(try dsimp only at d);go_simp;refine d.1.fail.mono ?_;rintro e h ⟨rfl,c⟩;exact m.out _ _ zz c
 refine zW ?_;refine zD λn d j=>?_
 have C:=zh d;clear d j;go_wp2;go_loopw [20] (λi wr=> ∃(k:Nat),k<=f.length/\i= .int .i64 k/\Qs (bw wr p 0 (l++aV sz (f.take k)))/\bi p w wr) (λi _=>f.length-(intOf i).toNat)
 case atStart=>exact⟨0,Nx _,rfl,zh (by simpa[aV] using C.1),C.2⟩
 case round=>
  obtain⟨k,W,rfl,r,t⟩:=hrel;by_cases q:k<f.length
  ·have X:=O.step t
   obtain⟨⟨a9,c',Y,_,_,D⟩,_⟩:=X;injection Y with Z a0 a1
   subst Z;obtain⟨b,o,rfl,b0,u⟩:=D (by intro g;simp[g] at q);have E:=u k q;have y:=V (f.getD k 0) (by simp[q]);have F:=zh (oX (sz:=sz) q);obtain⟨x,H⟩:=zx (f.getD k 0);rw[<-H] at E y F;have I:=zh y;have a2:0<=x/\x<=4294967295:=by have:=JX sz;omega
   have J:=zh (show(l++aV sz (f.take k)).length+sz<=1000000 by
    have:=U.out;have a3:sz*(k+1)<=sz*f.length:=Nat.mul_le_mul_left _ q;rw[Nw,aY,NP,OY W];rw[Nat.mul_succ] at a3;omega)
   have b1:=zh u;obtain⟨L,K⟩:=zy (l++aV sz (f.take k));rw[<-K] at r J;clear H D u a0 a1 y;go_wp2;refine zI (λw'=>bw w' p 0 L/\bi p w w') 7 (zL [?_,?_,?_,?_,?_,?_,?_]) (λn h g c=>⟨g.1.keep c,g.2.trans (bi.of_below c g.1.lt)⟩) (⟨r.keep zr.drew,t.trans (bi.of_below zr.drew r.lt)⟩) ?_;rotate_right
   iterate 5
    refine zW ?_
   refine aw zk rfl rfl ?_ ?_
   ·intro n d j s m;(try dsimp only at d);go_simp;refine zb (tO sz x _ P I.1 I.2) λh c=>?_;exact m.out _ _ zz c
   refine aw zk rfl rfl ?_ ?_
   ·intro n d j s m;(try dsimp only at d);go_simp;refine d.1.fail.mono ?_;rintro e h ⟨rfl,c⟩;exact m.out _ _ zz c
   simp only[zS];refine zD λh d j=>?_
   have M:=zh d;clear d j E;go_wp2_with fail;refine(lT p sz x 0 L h M.1 a2.1 zo J).mono ?_;rintro e b2 ⟨rfl,A,a4⟩;have a5:=M.2.trans a4;go_wp2;go_roundw
   case rel=>exact⟨k+1,zo,by go_num,zh (by rw[F,<-NX,<-K];exact A),a5⟩
   case measure=>simp[intOf];omega
  ·have a6:k=f.length:=zo
   subst a6;have B:=r.out;rw[OA] at B;have A:=zh B;clear B;go_wp2
   go_end0
   exact⟨rfl,A,t⟩
def ve: ∀n:Nat,aq 0 n=List.replicate n 0
 |0=>rfl
 |n+1=>by
  rw[PM,<-ve n];rfl
def iD(p:Nat)(n:Nat)(l:List UInt8)(w:Qm)(f:bw w p 0 l)(B:n<=60000)(C:l.length<=n):
 Qo zP 342 #[p,(n:Int)] w (λi w'=>i= .returned (.tuple #[])/\Qs (bw w' p 0 (l++List.replicate (n-l.length) 0))/\Qs (bi p w w')):=by
 have d:=zh f
 have j: ∃va a,w.cell? ⟨p,1,none⟩=some (.slice va l.length a):=by
  obtain⟨t,k,m⟩:=f;obtain⟨va,a,rfl⟩:=az m;exact⟨va,a,by rw[NA w p _ _ _ _ k];rfl⟩
 obtain⟨va,a,g⟩:=j;have u:(n:Int)<=60000:=zo;have v:(l.length:Int)<=n:=zo;clear f;go_enter func342,ntmps342;go_wp2_with fail;refine d.fail.mono ?_;rintro e x ⟨rfl,c⟩;have o:=d.keep c;have q:=zh (bi.of_below c d.lt);have y:=ae g c;clear c g;go_wp2_with fail;rw[(zo:(n:Int)-l.length=((n-l.length:Nat):Int))];refine(lT p (n-l.length) 0 0 l _ o zo zo zo).mono ?_;rintro e A ⟨rfl,h,r⟩;rw[ve] at h;have s:=q.trans r;go_wp2
 go_end0
 exact⟨rfl,h,s⟩
def Ar(w:Qm)(v:Qn)(l:List Int):Prop:=
 ∃a c,v= .slice a l.length c/\(∀x∈l,0<=x/\x<=18446744073709551615)/\
  (l≠ []-> ∃b o,a=some ⟨b,o,none⟩/\b<w.heap.size/\ ∀j,j<l.length->w.cell? ⟨b,o+j,none⟩=some (.int .u64 (l.getD j 0)))
def BK{w:Qm}{b c:Nat}{l:List Int}{a:Array Qn}{T:Qp}{fr:Nat×Nat}(e:w.heap.size=b)(f:a=(l.map (Value.int .u64)).toArray)(g: ∀x∈l,0<=x/\x<=18446744073709551615):
 Ar (w.alloc (.cells a T fr)) (.slice (some ⟨b,0,none⟩) l.length c) l:=by
 subst e;subst f;refine⟨_,_,rfl,g,λ_=>⟨w.heap.size,0,rfl,zm,λj d=>?_⟩⟩;rw[NA _ _ _ _ _ _ (Nu w _)];simp[d]
def bc(l:List Int):List UInt8:=l.flatMap λv=>aq v 8
def pX{l:List Int}{k:Nat}(a:k<l.length):bc (l.take (k+1))=bc (l.take k)++aq (l.getD k 0) 8:=by
 rw[kl a];simp[bc]
def aU: ∀(l:List Int),(bc l).length=8*l.length
 | []=>rfl
 |v::l=>by
  have:=aU l;simp only[bc] at this⊢;rw[NZ,Nw,am,this,NW];omega
def jF(w:Qm)(p:Nat)(v:Qn)(l:List Int):Prop:=Ar w v l/\(l≠ []-> ∃b o n c,v= .slice (some ⟨b,o,none⟩) n c/\jz w p b)
def jF.step{w w':Qm}{p:Nat}{v:Qn}{l:List Int}(x:jF w p v l)(h:bi p w w'):jF w' p v l:=by
 obtain⟨⟨a,c,i,m,q⟩,k⟩:=x;refine⟨⟨a,c,i,m,λe=>?_⟩,λe=>?_⟩
 ·obtain⟨b,o,f,g,r⟩:=q e
  obtain⟨y,o',n',c',s,t⟩:=k e;subst i;injection s with d A B
  subst f;injection d with d;injection d with d C
  subst d;exact⟨b,o,rfl,No g h.size,λj u=>(World.cell?_of_block (t.heap h)).trans (r j u)⟩
 ·obtain⟨b,o,n,c,f,g⟩:=k e
  exact⟨b,o,n,c,f,g.step h⟩
def dv{w:Qm}{p b c:Nat}{e:Int}{l:List Int}{bs:List UInt8}{a:Array Qn}{T:Qp}{fr:Nat×Nat}(f:bw w p e bs)(d:w.heap.size=b)(g:a=(l.map (Value.int .u64)).toArray)(h: ∀x∈l,0<=x/\x<=18446744073709551615):
 jF (w.alloc (.cells a T fr)) p (.slice (some ⟨b,0,none⟩) l.length c) l:=by
 refine⟨BK d g h,λ_=>⟨b,0,_,_,rfl,?_⟩⟩;subst d;exact jz.new f _
def fN(p:Nat)(v:Qn)(c:List Int)(l:List UInt8)(w:Qm)(y:bw w p 0 l)(A:Qs (jF w p v c))(B:l.length+8*c.length<=1000000):
 Qo zP 193 #[p,v] w (λC w'=>C= .returned (.tuple #[])/\Qs (bw w' p 0 (l++bc c))/\Qs (bi p w w')):=by
 obtain⟨⟨a,T,D,m,_⟩,_⟩:=A.1,trivial;subst D;have E:=zh m;have F:=zh y;have H:=zh B;have U:c.length<=1000000:=zo;obtain⟨V,n,_⟩:=y;have c0:w.cell? ⟨p,0,none⟩=some (.int .i64 0):=by rw[NA w p _ _ _ _ n];rfl
 clear m B n;go_enter func193,ntmps193;go_wp2;clear c0;go_loopw [18] (λi wr=> ∃(k:Nat),k<=c.length/\i= .int .i64 k/\Qs (bw wr p 0 (l++bc (c.take k)))/\bi p w wr) (λi _=>c.length-(intOf i).toNat)
 case atStart=>exact⟨0,Nx _,rfl,zh (by simpa[bc] using F.out),bi.refl _ _⟩
 case round=>
  obtain⟨k,W,rfl,q,f⟩:=hrel;by_cases d:k<c.length
  ·have I:=A.step f
   obtain⟨⟨X,c',J,_,r⟩,_⟩:=I;injection J with K L M
   subst K;obtain⟨b,o,rfl,Y,s⟩:=r (by intro N;simp[N] at d);have O:=s k d;have g:=E (c.getD k 0) (by simp[d]);have t:=zh (pX d);obtain⟨x,u⟩:=zx (c.getD k 0);rw[<-u] at O g t
   have P:=zh (show(l++bc (c.take k)).length+8<=1000000 by
    have:=H.out;rw[Nw,aU,NP];omega)
   clear u r s L M;go_wp2_with fail;refine(lT p 8 x 0 _ wr q g.1 g.2 P).mono ?_;rintro e Z ⟨rfl,h,Q⟩;have R:=f.trans Q;go_wp2;go_roundw
   case rel=>exact⟨k+1,zo,by go_num,zh (by rw[t,<-NX];exact h),R⟩
   case measure=>simp[intOf];omega
  ·have S:k=c.length:=zo
   subst S;have j:=q.out;rw[OA] at j;have h:=zh j;clear j;go_wp2
   go_end0
   exact⟨rfl,h,f⟩
def bd(l:List Int):List UInt8:=bc (l.map bM)
def rU{l:List Int}{k:Nat}(a:k<l.length):bd (l.take (k+1))=bd (l.take k)++bc [bM (l.getD k 0)]:=by
 rw[kl a];simp[bd,bc]
def ca(l:List Int):(bd l).length=8*l.length:=by rw[bd,aU,OC]
def fi(p:Nat)(v:Qn)(c:List Int)(l:List UInt8)(w:Qm)(Q:Qs (bw w p 0 l))(t:Qs (iY w p v c))(u:l.length+8*c.length<=1000000):
 Qo zP 125 #[p,v] w (λy w'=>y= .returned (.tuple #[])/\Qs (bw w' p 0 (l++bd c))/\Qs (bi p w w')):=by
 obtain⟨⟨a,R,A,m,_,_⟩,_⟩:=t.1,trivial;subst A;have B:=zh m;have C:=zh u;have S:c.length<=1000000:=zo;clear m u;go_enter func125,ntmps125;go_wp2;go_loopw [8] (λi wr=> ∃(k:Nat),k<=c.length/\i= .int .i64 k/\Qs (bw wr p 0 (l++bd (c.take k)))/\bi p w wr) (λi _=>c.length-(intOf i).toNat)
 case atStart=>exact⟨0,Nx _,rfl,zh (by simpa[bd,bc] using Q.out),bi.refl _ _⟩
 case round=>
  obtain⟨k,T,rfl,d,g⟩:=hrel;by_cases f:k<c.length
  ·have D:=t.step g
   obtain⟨⟨U,c',E,_,_,n⟩,_⟩:=D;injection E with F H I
   subst F;obtain⟨b,o,rfl,V,q⟩:=n (by intro J;simp[J] at f);have K:=q k f;have L:=B (c.getD k 0) (by simp[f]);have r:=zh (rU f);obtain⟨x,s⟩:=zx (c.getD k 0);rw[<-s] at K L r
   have M:=zh (show(l++bd (c.take k)).length+8<=1000000 by
    have:=C.out;rw[Nw,ca,NP];omega)
   clear s n q H I;go_wp2_with fail;refine(fN p _ [bM x] _ _ (d.keep (aL zr zl)) (dv d rfl (by simp[mX]) (by simp[bM];omega)) M).mono ?_;rintro e W ⟨rfl,h,N⟩;have O:=g.trans ((bi.of_below (aL (o:= .cells #[.int .u64 (IntKind.u64.wrap x)] 61) zr zl) d.lt).trans N);go_wp2;go_roundw
   case rel=>exact⟨k+1,zo,by go_num,zh (by rw[r,<-NX];exact h),O⟩
   case measure=>simp[intOf];omega
  ·have P:k=c.length:=zo
   subst P;have j:=d.out;rw[OA] at j;have h:=zh j;clear j;go_wp2
   go_end0
   exact⟨rfl,h,g⟩
def fj(w:Qm)(u:Nat)(e:Int)(s:Qt):Prop:=w.heap[u]?=some (.cells #[e,s] 468)
structure cR(u:Nat)(w w':Qm):Prop where
 os:w'.os=w.os
 tape:w'.tape=w.tape
 output:w'.output=w.output
 size:w.heap.size<=w'.heap.size
 block: ∀k,k<w.heap.size->k≠u->w'.heap[k]?=w.heap[k]?
def cR.refl(u:Nat)(w:Qm):cR u w w:=⟨rfl,rfl,rfl,Nt _,λ_ _ _=>rfl⟩
def cR.trans{u:Nat}{a b c:Qm}(d:cR u a b)(k:cR u b c):cR u a c:=
 ⟨k.os.trans d.os,k.tape.trans d.tape,k.output.trans d.output,Nq d.size k.size,λi e f=>(k.block i (No e d.size) f).trans (d.block i e f)⟩
def cR.of_below{u:Nat}{w w':Qm}(a:Qr w.heap.size w w'):cR u w w':=⟨a.os,a.tape,a.output,a.size,λk c _=>a.block k c⟩
def cR.below{u:Nat}{w w':Qm}(a:cR u w w')(d:u<=w.heap.size):Qr u w w':=⟨a.os,a.tape,a.output,a.size,λk c=>a.block k zo zo⟩
def cR.set{u:Nat}{w w':Qm}(a:cR u w w')(i:Nat)(v:Qn):cR u w (w'.setCell ⟨u,i,none⟩ v):=
 ⟨a.os,a.tape,a.output,by simp[World.setCell];exact a.size,λk d c=>(af _ c).trans (a.block k d c)⟩
def gV(s:Qt)(w:Qm)(d:s.size<=281474976710656):Qo zP 315 #[s] w (λc w'=> ∃u,c= .returned (.pointer (some ⟨u,0,none⟩))/\w.heap.size<=u/\Qs (fj w' u 0 s)/\Qs (Qr w.heap.size w w')):=by
 go_enter func315,ntmps315;go_wp2_with fail;refine zb (eV s w d) λe a=>?_
 go_wp2;go_ret;exact⟨_,rfl,a.size,Nu _ _,aL a a.size⟩
def cX:List UInt8->Int
 | []=>0
 |b::l=>b.toNat+256*cX l
def As{a b:Int}(c:a=b):Ending.returned (.int .u64 a)= .returned (.int .u64 b):=by rw[c]
def pY: ∀(l:List UInt8) (b:UInt8),cX (l++ [b])=cX l+b.toNat*256^l.length
 | [],b=>by simp[cX]
 |a::l,b=>by
  simp only[OK,cX,pY l b,NW,Int.pow_succ];rw[Int.mul_add,<-Int.mul_assoc,<-Int.mul_assoc,Int.mul_comm 256 (b.toNat:Int),Int.mul_assoc (b.toNat:Int) 256,Int.mul_comm 256 (256^l.length),Int.mul_assoc];omega
def gW: ∀(l:List UInt8),0<=cX l/\cX l<256^l.length
 | []=>by simp[cX]
 |a::l=>by
  have c:=gW l;have d:=a.toNat_lt;simp only[cX,NW,Int.pow_succ];omega
def JY(m:Nat)(a:m<=8):(256:Int)^m<=18446744073709551616:=by
 have:m=0\/m=1\/m=2\/m=3\/m=4\/m=5\/m=6\/m=7\/m=8:=zo;rcases this with rfl|rfl|rfl|rfl|rfl|rfl|rfl|rfl|rfl<;>decide
def HK(V:Int)(b:UInt8)(k:Nat)(m:0<=V)(f:V<256^k)(n:k<8):bits .or .u64 V (IntKind.u64.wrap (b.toNat*2^(8*k)))=V+b.toNat*256^k:=by
 obtain⟨v,rfl⟩: ∃v:Nat,V=v:=⟨V.toNat,zo⟩;have g:=b.toNat_lt;have a:(2:Nat)^(8*k)=256^k:=by rw[Nat.pow_mul]
 have d:v<2^(8*k):=by
  have h:((v:Nat):Int)<((256^k:Nat):Int):=by simpa using f
  rw[a];omega
 have i:(256:Nat)^k<=256^7:=Nat.pow_le_pow_right zo zo;have j:(256:Nat)^7=72057594037927936:=zd;have l:b.toNat*256^k<=255*256^k:=Nat.mul_le_mul_right _ zo
 have e:IntKind.u64.wrap ((b.toNat:Int)*2^(8*k))=((b.toNat*256^k:Nat):Int):=by
  have:((b.toNat:Int)*2^(8*k))=((b.toNat*256^k:Nat):Int):=by rw[<-a];simp
  rw[this];rw[mX];unfold bM;omega
 rw[e,u64_or_nat _ _ zo zo];have c:=Nat.shiftLeft_add_eq_or_of_lt d b.toNat;rw[Nat.shiftLeft_eq,a] at c;rw[Nat.or_comm,<-c];simp;omega
def xI(w:Qm)(s:Qt): ∃(cap:Nat) (a:Array Qn),(∀j (c:j<s.size),a[j]?=some (.int .u8 (s.data[j].toNat:Int)))/\
 (convert 9 134 (.string s)).run zP w= .ok (.slice (some ⟨w.heap.size,0,none⟩) s.size cap) (w.drew.alloc (.cells a 5 (a.size,a.size+1))):=
 ⟨_,_,λj c=>bytesRow_at s _ j c,run_bytes_of_string w 9 134 5 s underlying9 underlying134 underlying5⟩
def pZ(s:Qt)(w:Qm)(u:s.size<=8):Qo zP 382 #[s] w (aK w (.int .u64 (cX s.data.toList))):=by
 obtain⟨cap,c,d,r⟩:=xI w s;have m:=zh d;clear d;go_enter func382,ntmps382;go_wp2;go_loopw [9,3] (λi v wr=> ∃(k:Nat) (V:Int),k<=s.size/\i= .int .i64 k/\v= .int .u64 V/\Qs (V=cX (s.data.toList.take k))/\Qs (wr.heap[w.heap.size]?=some (.cells c 5 (c.size,c.size+1)))/\Qr w.heap.size w wr) (λi _ _=>s.size-(intOf i).toNat)
 case atStart=>exact⟨0,0,Nx _,rfl,rfl,zh (by simp[cX]),zh (Nu w _),(aL zr zl).drew⟩
 case round=>
  obtain⟨k,V,e,rfl,rfl,a,f,g⟩:=hrel;by_cases h:k<s.size
  ·have n:wr.cell? ⟨w.heap.size,k,none⟩=some (.int .u8 (s.data[k].toNat:Int)):=by
    rw[NA wr _ _ _ _ _ f];exact m k h
   obtain⟨b,j⟩:=zy (s.data[k]);rw[<-j] at n;have t:0<=(b.toNat:Int)/\(b.toNat:Int)<=255:=by have:=b.toNat_lt;omega
   have l:=HK V b k (by rw[a];exact(gW _).1) (by rw[a];have:=(gW (s.data.toList.take k)).2;rwa [NP,OY (by simpa using e)] at this) zo;have o:=zh l;clear l;go_wp2;go_roundw
   case rel=>
    refine⟨k+1,_,zo,by go_num,rfl,zh ?_,f,g⟩;have p:(s.data.toList.take k).length=k:=by rw[NP];exact OY (by simpa using e)
    rw[o,NE (by simpa using h),pY,p,a,j];rfl
   case measure=>simp[intOf];omega
  ·have q:k=s.size:=zo
   subst q;go_wp2;go_ret;exact⟨As (by rw[a,NC zm]),g⟩
def bK(s:Qt)(a b:Nat):(s.extract a b).data.toList=(s.data.toList.take b).drop a:=by
 rw[Lib.extract_data];simp[List.drop_take]
def mY(u n:Nat)(s:Qt)(w:Qm)(a:Qs (fj w u 0 s))(f:n<=s.size)(g:s.size<=9223372036854775807):
 Qo zP 383 #[u,(n:Int)] w (λc w'=>c= .returned (.string (s.extract 0 n))/\Qs (fj w' u 0 (s.extract n s.size))/\Qs (cR u w w')):=by
 have c0:w.cell? ⟨u,0,none⟩=some (.int .i64 0):=by rw[NA w u _ _ _ _ a];rfl
 have d:w.cell? ⟨u,1,none⟩=some (.string s):=by rw[NA w u _ _ _ _ a];rfl
 have e:=ad (o:=1) a;go_enter func383,ntmps383;go_wp2;go_ret;exact⟨rfl,by unfold fj;rw[al a];rfl,(cR.refl _ _).set _ _⟩
def iE(u:Nat)(s:Qt)(w:Qm)(j:Qs (fj w u 0 s))(c:8<=s.size)(k:s.size<=9223372036854775807):
 Qo zP 384 #[u] w (λd w'=>d= .returned (.int .u64 (cX (s.data.toList.take 8)))/\Qs (fj w' u 0 (s.extract 8 s.size))/\cR u w w'):=by
 have f:=zh c;clear c;go_enter func384,ntmps384;go_wp2_with fail;refine(mY u 8 s w j f k).mono ?_;rintro e g ⟨rfl,h,i⟩;go_wp2_with fail;refine zb (pZ _ g zu) λl a=>?_
 go_wp2;go_ret;exact⟨As (by first|rfl|(rw[bK];rfl)),ab h a,i.trans (cR.of_below a)⟩
def fI(x:Int):Int:=if x<9223372036854775808 then x else x-18446744073709551616
def qa(u:Nat)(s:Qt)(w:Qm)(j:Qs (fj w u 0 s))(d:8<=s.size)(k:s.size<=9223372036854775807):
 Qo zP 317 #[u] w (λf w'=>f= .returned (.int .i64 (fI (cX (s.data.toList.take 8))))/\fj w' u 0 (s.extract 8 s.size)/\cR u w w'):=by
 have a:=zh d;clear d;have c:=gW (s.data.toList.take 8);rw[show(s.data.toList.take 8).length=8 by rw[NP];have:=a.out;simp;omega] at c
 have g:=zh (show wrap64 (cX (s.data.toList.take 8))=fI (cX (s.data.toList.take 8)) by
  unfold wrap64 fI;split<;>omega)
 clear c;go_enter func317,ntmps317;go_wp2_with fail;refine(iE u s w j a k).mono ?_;rintro e l ⟨rfl,h,i⟩;go_wp2;go_ret;exact⟨bp g,h,i⟩
def BL(m:Nat)(a:m<=4):(256:Int)^m<=4294967296:=by
 have:m=0\/m=1\/m=2\/m=3\/m=4:=zo;rcases this with rfl|rfl|rfl|rfl|rfl<;>decide
def jG(u sz:Nat)(s:Qt)(w:Qm)(k:fj w u 0 s)(m:sz=4\/sz=2\/sz=1)(n:sz<=s.size)(F:s.size<=9223372036854775807):
 Qo zP 316 #[u,(sz:Int)] w (λo w'=>o= .returned (.int .i64 (cX (s.data.toList.take sz)))/\Qs (fj w' u 0 (s.extract sz s.size))/\Qs (cR u w w')):=by
 have p:=zh k;have q:=zh n;have d:=zh m
 have r:0<=cX (s.data.toList.take sz)/\cX (s.data.toList.take sz)<=4294967296:=by
  have f:=gW (s.data.toList.take sz);have H:=BL (s.data.toList.take sz).length (by have:=List.length_take_le sz s.data.toList;omega);omega
 have t:=zh (show(s.extract 0 sz).data.toList=s.data.toList.take sz by rw[bK,Pn]);have I:=zh (aa (show w.heap[u]?=_ from k));obtain⟨V,g⟩:=zx (cX (s.data.toList.take sz));have v:=zh (show cX (s.extract 0 sz).data.toList=V by rw[t,g]);rw[<-g] at r⊢;clear k n m g;go_enter func316,ntmps316;go_wp2_with fail;refine zI (λw'=>Qr w.heap.size w w'/\w'.heap[u]?=some (.cells #[(),s] 468)) 10 (zL [?_,?_,?_,?_,?_,?_,?_,?_,?_,?_]) (λl h f a=>⟨ai f.1 a,ab f.2 a⟩) (⟨zr.drew,p⟩) ?_;rotate_right
 iterate 7
  refine zW ?_
 refine aw zk rfl rfl ?_ ?_
 ·intro l c i x j;(try dsimp only at c);go_simp;refine zb (tO sz 0 _ d zo (by have:=d.out;unfold rQ;split<;>(try split)<;>omega)) λh a=>?_;exact j.out _ _ zz a
 refine aw zk rfl rfl ?_ ?_
 ·intro l c i x j;(try dsimp only at c);go_simp;refine zb (si u (.string s) 468 _ c.2) λh a=>?_;exact j.out _ _ zz a
 refine zW ?_;refine zD λh c i=>?_
 have y:=zh c.1;have A:=zh c.2;clear c i;go_wp2_with fail;refine(mY u sz s _ A q F).mono ?_;rintro e B ⟨rfl,C,D⟩;have E:=zh ((cR.of_below y).trans D);go_wp2_with fail;refine zb (pZ _ B (by simp;have:=d.out;omega)) λJ a=>?_
 rw[v];go_wp2;go_ret;exact⟨rfl,ab C a,E.trans (cR.of_below a)⟩
def eM:Maps.Keyed zP 3:=Maps.int_keyed underlying3
def kL(k:Int):Lit:= .int .i64 k
def HD(k:Int):Prop:=(Lit.int .i64 k).wf=true
def gn{k:Int}(a: -9223372036854775808<=k/\k<=9223372036854775807):HD k:=by
 simp[HD,Lit.wf,IntKind.bits,IntKind.signed,IntKind.min,IntKind.max];omega
def Ep(a:DataW Unit)(f:Int->Option Qt):Prop:=
 ∀k,HD k->(∀s,f k=some s->Maps.has a (kL k)=true/\ ∀z,a.atKey (kL k) z= .lit (.string s.data.toList))/\(f k=none->Maps.has a (kL k)=false)
def de(w:Qm)(b n:Nat)(f:Int->Option Qt):Prop:=
 ∃a:DataW Unit,w.ownsMap zP 3 (plainElem zP 9) b n a/\Ep a f
def oY(f:Int->Option Qt)(k:Int)(s:Qt):Int->Option Qt:=λj=>if j=k then some s else f j
def de.step{w w':Qm}{b n:Nat}{f:Int->Option Qt}(h:de w b n f)(i:w'.heap[b]?=w.heap[b]?):de w' b n f:=by
 obtain⟨a,⟨es,c,d,e⟩,g⟩:=h;exact⟨a,⟨es,c,i.trans d,e⟩,g⟩
def de.lt{w:Qm}{b n:Nat}{f:Int->Option Qt}(a:de w b n f):b<w.heap.size:=by
 obtain⟨c,a,_⟩:=a;exact a.lt
def de.mono{w:Qm}{b n m:Nat}{f:Int->Option Qt}(a:de w b n f)(e:n<=m):de w b m f:=by
 obtain⟨c,a,d⟩:=a;exact⟨c,a.mono e,d⟩
def de.map{w:Qm}{b n:Nat}{f:Int->Option Qt}(d:de w b n f): ∃es a,w.heap[b]?=some (.map es a):=by
 obtain⟨e,⟨es,a,c,_⟩,_⟩:=d;exact⟨es,a,c⟩
def Au(w:Qm):de (w.alloc (.map #[] 0)) w.heap.size 0 (λ_=>none):=
 ⟨_,World.ownsMap_made w _ _ _,λk _=>⟨λs a=>(by cases a),λ_=>rfl⟩⟩
def gX{k:Int}(a:HD k):keyOf zP 3 (.int .i64 k)=some (kL k):=Maps.keyOf_int_mk underlying3 a
def vf{s t:Qt}(a:s.data.toList=t.data.toList):s=t:=by
 cases s;cases t;congr;exact Pt.1 a
def Er:Option Qt->Qn
 |some s=> .tuple #[s,true]
 |none=> .tuple #[ByteArray.empty,false]
def de.look{w:Qm}{b n:Nat}{f:Int->Option Qt}(c:de w b n f){k:Int}(e:HD k):
 (Instr.lookup 149 (.map (some b)) (.int .i64 k) true).run zP w= .ok (Er (f k)) w:=by
 obtain⟨g,c,h⟩:=c;obtain⟨i,j⟩:=h k e;have l:(zeroValue 9).run zP w= .ok (.string ByteArray.empty) w:=zk;obtain⟨v,ps,m,o⟩:=c.look_ok eM underlying149 l (plainElem_string underlying9 zd) (gX e);obtain⟨s,rfl,p,_⟩:=plainElem_string_inv underlying9 o;rw[m];have a:g.atKey (kL k) (.lit (.string ByteArray.empty.data.toList))= .lit (.string s.data.toList):=Of Prod.fst p;cases hf:f k with
 |none=>
  have d:=j hf;rw[d];rw[Maps.atKey_of_not_has d] at a;have:ByteArray.empty=s:=vf (by injection a with a;injection a);rw[<-this];rfl
 |some t=>
  obtain⟨q,r⟩:=i t hf;rw[q];rw[r] at a;have:t=s:=vf (by injection a with a;injection a);rw[<-this];rfl
def BM{i:DataW Unit}{f:Int->Option Qt}(d:Ep i f)(m:Maps.IsMap i)(k:Int)(s:Qt):Ep (i.put (kL k) (.lit (.string s.data.toList))) (oY f k s):=by
 intro j n;by_cases g:j=k
 ·subst g
  refine⟨λt a=>?_,λc=>?_⟩
  ·have:s=t:=by unfold oY at a;rw[NH rfl] at a;exact Oa a
   subst this;exact⟨Maps.has_put_same m (by simp[WideAt.IsKeyLit,kL]) _,λz=>Maps.atKey_put_same m (by simp[WideAt.IsKeyLit,kL]) _ z⟩
  ·unfold oY at c;rw[NH rfl] at c;cases c
 ·have h:kL j≠kL k:=λd=>g (by unfold kL at d;injection d)
  have e:oY f k s j=f j:=by unfold oY;rw[NB g]
  rw[e];obtain⟨l,o⟩:=d j n;exact⟨λt a=>⟨by rw[Maps.has_put_other h];exact(l t a).1,λz=>by rw[Maps.atKey_put_other h];exact(l t a).2 z⟩,λc=>by rw[Maps.has_put_other h];exact o c⟩
def lh{w:Qm}{ops:Array Oper}{rest:List Oper}{o:Oper}{a:Act}{d:Exit->Act->Qm->Prop}
 (j:o.guard=none) (m x v:Operand) (l:o.op=Op.mapUpdate 149 m x v) (b n:Nat) (f:Int->Option Qt) (k:Int) (s:Qt)
 (p:a.eval m= .map (some b)) (q:a.eval x= .int .i64 k) (r:a.eval v= .string s) (c:de w b n f) (y:n<=1000000) (t:HD k) (A:s.size<=9223372036854775807)
 (u: ∀w',Qs (de w' b (n+1) (oY f k s))->Qs (w.grownBy w' (some b))->wpList zP ops d rest (a.put o.dst undef) w'):
 wpList zP ops d (o::rest) a w:=by
 obtain⟨e,c,g⟩:=c
 refine wpList_mapUpdate_in w j m x v 149 l 3 9 eM underlying149 (plainElem zP 9) b n e p c (by unfold maxLen;omega) (.int .i64 k) (.string s) (kL k) q r (gX t)
  (.lit (.string s.data.toList)) [] (plainElem_string underlying9 (by unfold maxLen;omega)) (λw' h i=>u w' (zh ⟨_,h,BM g c.isMap k s⟩) (zh i.grown))
def xJ(b n:Nat)(f:Int->Option Qt)(w:Qm)(j:de w b n f):
 Qo zP 241 #[.map (some b)] w (λe w'=> ∃c,e= .returned (.map (some c))/\w.heap.size<=c/\Qs (de w' c n f)/\Qs (Qr w.heap.size w w')):=by
 obtain⟨a,⟨es,d,g,h⟩,i⟩:=j;have hq:=λw=>run_eql_map_nil_sl (P:=zP) w 149 _ _ (some b) underlying149
 go_enter func241,ntmps241;go_wp2_with fail;rw[run_callFunc_extern func206 zk zk zk (e:=Extern.MapsClone.clone) zk,run_maps_clone_sl w 149 g];simp only[Result.andThen];rw[OZ];go_wp2_with fail;rw[run_typeAssert_map_sl _ 149 20 _ _ _ underlying149];simp only[Result.andThen];rw[OZ];go_wp2;go_ret;exact⟨_,rfl,Nt _,⟨a,⟨es,d,ag rfl,h⟩,i⟩,ak _ _⟩
structure DV where
 on:Bool
 writes:Int
 armed:Bool
 left:Int
 keep:List Int
 blocks:Int
 now:Int->Option Qt
 lasts:Int->Option Qt
 waits:List (Int×Qt)
def w0:Int×Qt:=(0,ByteArray.empty)
def iF(l:List (Int×Qt)):List Qn:=l.flatMap λx=> [.int .i64 x.1,.string x.2]
def qb: ∀(l:List (Int×Qt)) (j:Nat),j<l.length->(iF l)[j*2]?=some (.int .i64 (l.getD j w0).1)/\(iF l)[j*2+1]?=some (.string (l.getD j w0).2)
 | [],j,a=>absurd a (Oy _)
 |t::l,0,_=>⟨rfl,rfl⟩
 |t::l,j+1,a=>by
  have:=qb l j (by simpa using a)
  have e: ∀k,(iF (t::l))[(j+1)*2+k]?=(iF l)[j*2+k]?:=λk=>by
   show([Value.int .i64 t.1,.string t.2]++iF l)[(j+1)*2+k]?=_;rw[OE zu];congr 1;simp;omega
  have c:=e 0;simp only[NR] at c;rw[c,e 1];simpa using this
def gY(w:Qm)(v:Qn)(l:List Int):Prop:=aE w v l/\ ∀b o s n c,v= .slice (some ⟨b,o,s⟩) n c->l≠ []-> ∃a fr,w.heap[b]?=some (.cells a 3 fr)
def DV.ok(d:DV):Prop:=aQ d.writes/\aQ d.left/\aQ d.blocks/\ ∀x∈d.waits,HD x.1/\x.2.size<=9223372036854775807
structure DP(w:Qm)(B p c:Nat)(d:DV)(kv wv:Qn)(mb lb:Nat):Prop where
 blk:w.heap[p]?=some (.cells #[.bool d.on,.int .i64 d.writes,.bool d.armed,.int .i64 d.left,kv,.int .i64 d.blocks,.map (some mb),.map (some lb),wv] 152)
 keep:gY w kv d.keep
 now:de w mb c d.now
 lasts: ∃n,n+d.waits.length<=c/\de w lb n d.lasts
 waits:w.ownsRow B 276 2 wv d.waits.length (iF d.waits)
 ne:mb≠lb
 ge:B<=p/\B<=mb/\B<=lb
 ok:d.ok
def bg(w:Qm)(B p c:Nat)(d:DV):Prop:= ∃kv wv mb lb,DP w B p c d kv wv mb lb
def cL(w:Qm)(p k:Nat):Prop:=k=p\/w.cell? ⟨p,6,none⟩=some (.map (some k))\/w.cell? ⟨p,7,none⟩=some (.map (some k))\/ ∃v,w.cell? ⟨p,8,none⟩=some v/\v.ownBlock=some k
structure cS(p:Nat)(w w':Qm):Prop where
 os:w'.os=w.os
 tape:w'.tape=w.tape
 output:w'.output=w.output
 size:w.heap.size<=w'.heap.size
 block: ∀k,k<w.heap.size-> ¬cL w p k->w'.heap[k]?=w.heap[k]?
 own: ∀k,cL w' p k->cL w p k\/w.heap.size<=k
def cS.refl(p:Nat)(w:Qm):cS p w w:=⟨rfl,rfl,rfl,Nt _,λ_ _ _=>rfl,λ_ a=> .inl a⟩
def cS.trans{p:Nat}{a b c:Qm}(d:cS p a b)(k:cS p b c):cS p a c:=
 ⟨k.os.trans d.os,k.tape.trans d.tape,k.output.trans d.output,Nq d.size k.size,
  λi f e=>(k.block i (No f d.size) (λh=>(d.own i h).elim e (λg=>zo))).trans (d.block i f e),
  λi e=>(k.own i e).elim (d.own i) (λg=> .inr (Nq d.size g))⟩
def cS.of_below{p:Nat}{w w':Qm}(a:Qr w.heap.size w w')(e:p<w.heap.size):cS p w w':=by
 have d: ∀o,w'.cell? ⟨p,o,none⟩=w.cell? ⟨p,o,none⟩:=λo=>a.cell (p:=⟨p,o,none⟩) e
 refine⟨a.os,a.tape,a.output,a.size,λk c _=>a.block k c,λk c=> .inl ?_⟩;unfold cL at c⊢
 rwa [d,d,d] at c
def cS.below{p B:Nat}{w w':Qm}(a:cS p w w')(d: ∀k,cL w p k->B<=k)(f:B<=w.heap.size):Qr B w w':=
 ⟨a.os,a.tape,a.output,a.size,λk e=>a.block k zo (λc=>by have:=d k c;omega)⟩
def gh{w:Qm}{b:Nat}{T:Qp}{a c d e f g h i j:Qn}(k:w.heap[b]?=some (.cells #[a,c,d,e,f,g,h,i,j] T)):
 w.cell? ⟨b,0,none⟩=some a/\w.cell? ⟨b,1,none⟩=some c/\w.cell? ⟨b,2,none⟩=some d/\w.cell? ⟨b,3,none⟩=some e/\w.cell? ⟨b,4,none⟩=some f/\w.cell? ⟨b,5,none⟩=some g/\w.cell? ⟨b,6,none⟩=some h/\w.cell? ⟨b,7,none⟩=some i/\w.cell? ⟨b,8,none⟩=some j:=by
 refine⟨?_,?_,?_,?_,?_,?_,?_,?_,?_⟩<;>(rw[NA w b _ _ _ _ k];rfl)
def qc{w:Qm}{b:Nat}{T:Qp}{a:Array Qn}(c:w.heap[b]?=some (.cells a T)):
 w.frozen? ⟨b,0,none⟩=false/\w.frozen? ⟨b,1,none⟩=false/\w.frozen? ⟨b,2,none⟩=false/\w.frozen? ⟨b,3,none⟩=false/\w.frozen? ⟨b,4,none⟩=false/\w.frozen? ⟨b,5,none⟩=false/\w.frozen? ⟨b,6,none⟩=false/\w.frozen? ⟨b,7,none⟩=false/\w.frozen? ⟨b,8,none⟩=false:=by
 refine⟨?_,?_,?_,?_,?_,?_,?_,?_,?_⟩<;>exact ad c
def gY.step{w w':Qm}{v:Qn}{l:List Int}(x:gY w v l)(y:w.heap.size<=w'.heap.size)(g: ∀b o s n c,v= .slice (some ⟨b,o,s⟩) n c->l≠ []->w'.heap[b]?=w.heap[b]?):gY w' v l:=by
 obtain⟨⟨a,c,rfl,h,i,k⟩,m⟩:=x;refine⟨⟨a,c,rfl,h,i,λd=>?_⟩,λb o s n c' e d=>?_⟩
 ·obtain⟨b,o,rfl,f,p⟩:=k d
  have q:=g b o none _ _ rfl d;have r: ∀o',w'.cell? ⟨b,o',none⟩=w.cell? ⟨b,o',none⟩:=λo'=>by unfold World.cell?;rw[q]
  exact⟨b,o,rfl,zo,λj t=>by rw[r];exact p j t⟩
 ·obtain⟨u,fr,f⟩:=m b o s n c' e d
  exact⟨u,fr,(g b o s n c' e d).trans f⟩
def vg(w:Qm):gY w (.slice none 0 0) []:=⟨fg w,λ_ _ _ _ _ e _=>by cases e⟩
def aZ{w w':Qm}{B k n:Nat}{e:Qp}{v:Qn}{c:List Qn}(l:w.ownsRow B e k v n c)(m: ∀g,v.ownBlock=some g->w'.heap[g]?=w.heap[g]?):w'.ownsRow B e k v n c:=by
 obtain⟨d,a⟩:=l;refine⟨d,?_⟩;rcases a with a|⟨g,cap,f,a,h,i,j⟩
 ·exact .inl a
 ·exact .inr ⟨g,cap,f,a,h,by rw[m g (by rw[a];rfl)];exact i,j⟩
def ar{w:Qm}{B k n g:Nat}{e:Qp}{v:Qn}{j:List Qn}(l:w.ownsRow B e k v n j)(a:v.ownBlock=some g):B<=g/\g<w.heap.size/\ ∃c,w.heap[g]?=some (.cells c e (0,0)):=by
 rcases l.2 with⟨d,_⟩|⟨h,cap,c,d,i,f,m⟩
 ·rw[d] at a;cases a
 ·rw[d] at a
  obtain rfl:h=g:=by simpa[Value.ownBlock] using a
  exact⟨i,aa f,c,f⟩
section
variable{w:Qm}{B p c:Nat}{d:DV}{kv wv:Qn}{mb lb:Nat}
def DP.lt(a:DP w B p c d kv wv mb lb):p<w.heap.size:=aa a.blk
def DP.apart(h:DP w B p c d kv wv mb lb):p≠mb/\p≠lb/\(∀g,wv.ownBlock=some g->g≠p/\g≠mb/\g≠lb)/\
 (∀b o s n c',kv= .slice (some ⟨b,o,s⟩) n c'->d.keep≠ []->b≠p/\b≠mb/\b≠lb/\wv.ownBlock≠some b):=by
 obtain⟨es,r,j⟩:=h.now.map;obtain⟨n,_,i⟩:=h.lasts;obtain⟨t,u,i⟩:=i.map;have f:=h.blk;refine⟨λe=>(by rw[e,j] at f;cases f),λe=>(by rw[e,i] at f;cases f),λg k=>?_,λb o s n c' e l=>?_⟩
 ·obtain⟨_,_,m,a⟩:=ar h.waits k
  refine⟨λe=>?_,λe=>(by rw[e,j] at a;cases a),λe=>(by rw[e,i] at a;cases a)⟩;rw[e,f] at a;injection a with a;injection a with _ a;exact absurd a zd
 ·obtain⟨v,fr,a⟩:=h.keep.2 b o s n c' e l
  refine⟨λe=>?_,λe=>(by rw[e,j] at a;cases a),λe=>(by rw[e,i] at a;cases a),λk=>?_⟩
  ·rw[e,f] at a
   injection a with a;injection a with _ a;exact absurd a zd
  ·obtain⟨_,_,m,q⟩:=ar h.waits k
   rw[q] at a;injection a with a;injection a with _ a;exact absurd a zd
def DP.own_iff(i:DP w B p c d kv wv mb lb)(k:Nat):cL w p k↔k=p\/k=mb\/k=lb\/wv.ownBlock=some k:=by
 obtain⟨_,_,_,_,_,_,e,f,g⟩:=gh i.blk;unfold cL;rw[e,f,g]
 constructor
 ·rintro(a|a|a|⟨v,a,h⟩)
  ·exact .inl a
  ·exact .inr (.inl (by injection a with a;injection a with a;injection a with a;exact a.symm))
  ·exact .inr (.inr (.inl (by injection a with a;injection a with a;injection a with a;exact a.symm)))
  ·injection a with a;subst a;exact .inr (.inr (.inr h))
 ·rintro(a|a|a|a)
  ·exact .inl a
  ·exact .inr (.inl (by rw[a]))
  ·exact .inr (.inr (.inl (by rw[a])))
  ·exact .inr (.inr (.inr ⟨_,rfl,a⟩))
def DP.ge_own(a:DP w B p c d kv wv mb lb): ∀k,cL w p k->B<=k:=by
 intro k e;rcases(a.own_iff k).1 e with rfl|rfl|rfl|f
 ·exact a.ge.1
 ·exact a.ge.2.1
 ·exact a.ge.2.2
 ·exact(ar a.waits f).1
def DP.rest{w':Qm}(a:DP w B p c d kv wv mb lb)(x:w.heap.size<=w'.heap.size)(f: ∀k,k≠p->k<w.heap.size->w'.heap[k]?=w.heap[k]?):
 gY w' kv d.keep/\de w' mb c d.now/\(∃n,n+d.waits.length<=c/\de w' lb n d.lasts)/\w'.ownsRow B 276 2 wv d.waits.length (iF d.waits):=by
 obtain⟨l,q,r,t⟩:=a.apart;obtain⟨n,u,h⟩:=a.lasts;refine⟨a.keep.step x (λb o s m c' e i=>?_),a.now.step (f _ l.symm a.now.lt),⟨n,u,h.step (f _ q.symm h.lt)⟩,aZ a.waits (λg j=>f g (r g j).1 (ar a.waits j).2.1)⟩;obtain⟨y,fr,v⟩:=a.keep.2 b o s m c' e i;exact f b (t b o s m c' e i).1 (aa v)
def DP.step{w':Qm}(a:DP w B p c d kv wv mb lb)(e:Qr w.heap.size w w'):DP w' B p c d kv wv mb lb:=by
 obtain⟨f,g,h,i⟩:=a.rest e.size (λk _ j=>e.block k j);exact⟨ab a.blk e,f,g,h,i,a.ne,a.ge,a.ok⟩
def DP.dstep{w':Qm}{d':DV}{kv' m:Qn}{j l c':Nat}(n:DP w B p c d kv wv mb lb)(q:DP w' B p c' d' kv' m j l)(r:w'.os=w.os)(s:w'.tape=w.tape)(t:w'.output=w.output)(u:w.heap.size<=w'.heap.size)
 (v: ∀k,k<w.heap.size->k≠p->k≠mb->k≠lb->wv.ownBlock≠some k->w'.heap[k]?=w.heap[k]?)
 (h:j=mb\/w.heap.size<=j) (i:l=lb\/w.heap.size<=l) (f: ∀g,m.ownBlock=some g->wv.ownBlock=some g\/w.heap.size<=g):cS p w w':=by
 refine⟨r,s,t,u,λk o a=>?_,λk a=>?_⟩
 ·rw[n.own_iff] at a
  exact v k o (λe=>a (.inl e)) (λe=>a (.inr (.inl e))) (λe=>a (.inr (.inr (.inl e)))) (λe=>a (.inr (.inr (.inr e))))
 ·rw[n.own_iff]
  rcases(q.own_iff k).1 a with e|e|e|e
  ·exact .inl (.inl e)
  ·rcases h with h|h
   ·exact .inl (.inr (.inl (e.trans h)))
   ·exact .inr zo
  ·rcases i with i|i
   ·exact .inl (.inr (.inr (.inl (e.trans i))))
   ·exact .inr zo
  ·rcases f k e with f|f
   ·exact .inl (.inr (.inr (.inr f)))
   ·exact .inr f
end
def bg.step{w w':Qm}{B p c:Nat}{d:DV}(a:bg w B p c d)(e:Qr w.heap.size w w'):bg w' B p c d:=by
 obtain⟨kv,wv,mb,lb,a⟩:=a;exact⟨kv,wv,mb,lb,a.step e⟩
def bg.lt{w:Qm}{B p c:Nat}{d:DV}(a:bg w B p c d):p<w.heap.size:=by obtain⟨kv,wv,mb,lb,a⟩:=a;exact a.lt
def bg.dstep{w w':Qm}{B p c:Nat}{d:DV}(a:bg w B p c d)(e:Qr w.heap.size w w'):cS p w w':=cS.of_below e a.lt
def bg.below{w w':Qm}{B p c:Nat}{d:DV}(a:bg w B p c d)(e:cS p w w'):Qr B w w':=by
 obtain⟨kv,wv,mb,lb,a⟩:=a;exact e.below a.ge_own (Oc (Nat.lt_of_le_of_lt a.ge.1 a.lt))
def bg.mono{w:Qm}{B p c c':Nat}{d:DV}(a:bg w B p c d)(f:c<=c'):bg w B p c' d:=by
 obtain⟨kv,wv,mb,lb,a⟩:=a;obtain⟨n,g,e⟩:=a.lasts;exact⟨kv,wv,mb,lb,a.blk,a.keep,a.now.mono f,⟨n,zo,e⟩,a.waits,a.ne,a.ge,a.ok⟩
def qd(w:Qm)(B p c:Nat)(d:DV)(v:Qn)(e:Qq)(w':Qm):Prop:=e= .returned v/\Qs (bg w' B p c d)/\Qs (cS p w w')
section
variable{w:Qm}{B p c:Nat}{d:DV}
def eN(a:bg w B p c d):Qo zP 196 #[p] w (aK w (.bool (!d.on))):=by
 obtain⟨kv,wv,mb,lb,a⟩:=a;obtain⟨c0,e,f,g,h,i,j,k,l⟩:=gh a.blk;clear a;go_enter func196,ntmps196;go_wp2;go_ret;exact⟨rfl,ND _ _⟩
def iZ(a:bg w B p c d):Qo zP 60 #[p] w (aK w (.int .i64 d.blocks)):=by
 obtain⟨kv,wv,mb,lb,a⟩:=a;obtain⟨c0,e,f,g,h,i,j,k,l⟩:=gh a.blk;clear a;go_enter func60,ntmps60;go_wp2;go_ret;exact⟨rfl,ND _ _⟩
def DV.spent(d:DV):DV:={d with writes:=d.writes+1,left:=if d.armed then d.left-1 else d.left}
def vh(a:bg w B p c d)(e:d.armed=true)(n:d.left<=0):Qo zP 197 #[p] w (aK w (.bool true)):=by
 obtain⟨kv,wv,mb,lb,a⟩:=a;obtain⟨c0,g,f,h,i,j,k,l,m⟩:=gh a.blk;rw[e] at f;clear a e;go_enter func197,ntmps197;go_wp2;go_ret;exact⟨rfl,ND _ _⟩
def DP.spent{kv wv:Qn}{mb lb:Nat}{w':Qm}(a:DP w B p c d kv wv mb lb)(F:0<=d.writes/\d.writes<=1000000000000)(v:d.armed=true->0<d.left)
 (x:w'.heap[p]?=some (.cells #[d.on,(d.spent.writes:Int),d.armed,(d.spent.left:Int),kv,(d.blocks:Int),.map (some mb),.map (some lb),wv] 152))
 (y:w'.os=w.os) (A:w'.tape=w.tape) (C:w'.output=w.output) (f:w.heap.size<=w'.heap.size) (h: ∀k,k≠p->k<w.heap.size->w'.heap[k]?=w.heap[k]?):bg w' B p c d.spent/\cS p w w':=by
 obtain⟨i,j,l,m⟩:=a.rest f h
 have n:d.spent.ok:=by
  obtain⟨D,E,o,q⟩:=a.ok;refine⟨by unfold DV.spent aQ;dsimp only;omega,?_,o,q⟩;unfold DV.spent aQ at*;dsimp only;split
  ·rename_i r;have:=v r;omega
  ·omega
 have e:DP w' B p c d.spent kv wv mb lb:=⟨x,i,j,l,m,a.ne,a.ge,n⟩;exact⟨⟨_,_,_,_,e⟩,a.dstep e y A C f (λk s t _ _ _=>h k t s) (.inl rfl) (.inl rfl) (λg u=> .inl u)⟩
def Av(a:bg w B p c d)(i:0<=d.writes/\d.writes<=1000000000000)(g:Qs (d.armed=true->0<d.left)):Qo zP 197 #[p] w (qd w B p c d.spent (.bool false)):=by
 obtain⟨kv,wv,mb,lb,a⟩:=a;have H:=zh a;have j:=a.ok.2.1;unfold aQ at j;obtain⟨c0,l,h,m,n,o,q,r,s⟩:=gh a.blk;obtain⟨t,u,v,x,y,A,C,D,E⟩:=qc a.blk;clear a;by_cases hq:d.armed=true
 ·have F:=g hq
  have e:=zh hq;rw[hq] at h;clear hq;go_enter func197,ntmps197;go_wp2;go_ret;refine⟨rfl,?_⟩;refine H.spent i g ?_ rfl rfl rfl zm (λk f _=>by rw[af _ (by simpa using f),af _ (by simpa using f)]);rw[al (al H.blk _)];unfold DV.spent;rw[e];rfl
 ·have e:=zh (show d.armed=false by simpa using hq)
  rw[e] at h;clear hq;go_enter func197,ntmps197;go_wp2;go_ret;refine⟨rfl,?_⟩;refine H.spent i g ?_ rfl rfl rfl zm (λk f _=>by rw[af _ (by simpa using f)]);rw[al H.blk];unfold DV.spent;rw[e];rfl
end
def ow{w:Qm}{B:Nat}{v:Qn}{l:List Int}(i:w.ownsRow B 3 1 v l.length (l.map (Value.int .i64)))(q: ∀x∈l,-9223372036854775808<=x/\x<=9223372036854775807):gY w v l:=by
 have a:=i;refine⟨?_,λb o s n c e r=>?_⟩
 ·rcases i.2 with⟨d,f⟩|⟨g,cap,h,d,_,_,f,k,_,_⟩
  ·subst d
   obtain rfl:=NI f;exact fg _
  ·subst d
   refine⟨_,cap,rfl,q,⟨zo,by unfold maxLen at k;omega⟩,λ_=>⟨g,0,rfl,(a.lt g rfl).2,λj m=>?_⟩⟩;have:=a.cellAt j zo;rw[Ok,this];simp[m]
 ·obtain⟨_,_,h,p⟩:=ar a (g:=b) (by rw[e];rfl)
  exact⟨h,_,p⟩
def xK(v:Qn)(l:List Int)(w:Qm)(q:aE w v l)(t:l.length<=1000000):
 Qo zP 136 #[v] w (λj w'=> ∃a c,j= .returned (.slice a l.length c)/\Qs (gY w' (.slice a l.length c) l)/\Qs (Qr w.heap.size w w')):=by
 obtain⟨a,f,rfl,k,r,m⟩:=q;by_cases h:l= []
 ·subst h
  cases a with
  |none=>
   refine(slices_Clone_int_nil _ _ w).mono ?_;rintro e i ⟨rfl,rfl⟩;exact⟨_,_,rfl,vg _,ND _ _⟩
  |some a=>
   refine(slices_Clone_int_zero _ _ w).mono ?_;rintro e i ⟨u,rfl,d,_,g⟩;obtain⟨n,f,rfl⟩:=az d;exact⟨_,_,rfl,ow d zm,g⟩
 ·obtain⟨b,o,rfl,s,p⟩:=m h
  refine(slices_Clone_int b o l.length f l w zl zo p).mono ?_;rintro e i ⟨u,rfl,d,_,g⟩;rw[OA] at d;obtain⟨n,f,rfl⟩:=az d;exact⟨_,_,rfl,ow d k,g⟩
def DV.arm(d:DV)(n:Int)(l:List Int):DV:={d with armed:=decide (0<=n),left:=n,keep:=l}
section
variable{w:Qm}{B p c:Nat}{d:DV}
def DP.small{u f kv':Qn}{h i:Nat}{w':Qm}{d':DV}(a:DP w B p c d u f h i)(v:d'.now=d.now)(x:d'.lasts=d.lasts)(l:d'.waits=d.waits)(y:d'.ok)(e:gY w' kv' d'.keep)
 (A:w'.heap[p]?=some (.cells #[d'.on,(d'.writes:Int),d'.armed,(d'.left:Int),kv',(d'.blocks:Int),.map (some h),.map (some i),f] 152))
 (C:w'.os=w.os) (D:w'.tape=w.tape) (E:w'.output=w.output) (m:w.heap.size<=w'.heap.size) (n: ∀k,k≠p->k<w.heap.size->w'.heap[k]?=w.heap[k]?):bg w' B p c d'/\cS p w w':=by
 obtain⟨F,o,q,r⟩:=a.rest m n;have j:DP w' B p c d' kv' f h i:=⟨A,e,by rw[v];exact o,by rw[x,l];exact q,by rw[l];exact r,a.ne,a.ge,y⟩;exact⟨⟨_,_,_,_,j⟩,a.dstep j C D E m (λk e s _ _ _=>n k s e) (.inl rfl) (.inl rfl) (λg t=> .inl t)⟩
def HL(n:Int)(v:Qn)(l:List Int)(i:bg w B p c d)(y:aE w v l)(A:aQ n)(I:l.length<=1000000):
 Qo zP 107 #[p,n,v] w (qd w B p c (d.arm n l) (.tuple #[])):=by
 obtain⟨J,K,L,M,i⟩:=i;have H:=zh i;have C:=zh y;have D:=zh A;obtain⟨va,vc,rfl,_⟩:=y;clear i;unfold aQ at A;go_enter func107,ntmps107;go_wp2_with fail;refine(xK _ l _ C I).mono ?_;rintro e j ⟨a,q,rfl,r,t⟩;have g:=H.step t;obtain⟨N,O,P,Q,R,S,T,U,V⟩:=qc g.blk;obtain⟨c0,W,X,Y,Z,a0,a1,a2,a3⟩:=gh g.blk;go_wp2
 go_end0
 have u: ∀k,k≠p->(((j.setCell ⟨p,2,none⟩ (.bool (decide (0<=n)))).setCell ⟨p,3,none⟩ (.int .i64 n)).setCell ⟨p,4,none⟩ (.slice a l.length q)).heap[k]?=j.heap[k]?:=λk h=>by
  rw[af _ h,af _ h,af _ h]
 have x:=DP.small (d':=d.arm n l) (kv':= .slice a l.length q) (w':=((j.setCell ⟨p,2,none⟩ (.bool (decide (0<=n)))).setCell ⟨p,3,none⟩ (.int .i64 n)).setCell ⟨p,4,none⟩ (.slice a l.length q)) g rfl rfl rfl
  ⟨H.ok.1,D,H.ok.2.2⟩ (r.step zm (λb o s m c' e E=>u b (λF=>by
   obtain⟨a4,fr,f⟩:=r.2 b o s m c' e E;rw[F,g.blk] at f;injection f with f;injection f with _ f;exact absurd f zd))) (by rw[al (al (al g.blk _) _) _];rfl) rfl rfl rfl zm (λk h _=>u k h)
 exact⟨rfl,x.1,(cS.of_below t H.lt).trans x.2⟩
def DV.restore(d:DV):DV:=if 0<d.blocks then{d with on:=true} else d
def vi(a:bg w B p c d):Qo zP 171 #[p] w (qd w B p c d.restore (.tuple #[])):=by
 obtain⟨h,j,l,m,a⟩:=a;have H:=zh a;obtain⟨c0,n,o,q,r,s,t,u,v⟩:=gh a.blk;obtain⟨x,y,A,C,D,E,F,I,J⟩:=qc a.blk;clear a;by_cases g:0<d.blocks
 ·have e:=zh (show d.restore={d with on:=true} from NH g)
  go_enter func171,ntmps171;go_wp2
  go_end0
  rw[e];have i:=DP.small (d':={d with on:=true}) (kv':=h) (w':=w.setCell ⟨p,0,none⟩ (.bool true)) H rfl rfl rfl H.ok ((H.rest zm (λk f _=>af _ f)).1) (by rw[al H.blk];rfl) rfl rfl rfl zm (λk f _=>af _ f);exact⟨rfl,i⟩
 ·have e:=zh (show d.restore=d from NB g)
  go_enter func171,ntmps171;go_wp2
  go_end0
  rw[e];exact⟨rfl,⟨_,_,_,_,H⟩,cS.refl _ _⟩
def jH:Qt:=⟨(Lib.repeatL [0] 256).toArray⟩
def Es:Option Qt->Qt×Int
 |some s=>(s,0)
 |none=>(jH,0)
def DV.read(d:DV)(k:Int):Qt×Int:=
 if d.on=false then(ByteArray.empty,14) else if k<0\/d.blocks<=k then(ByteArray.empty,15) else Es (d.now k)
def lU(k:Int)(h:bg w B p c d)(r:aQ k):Qo zP 374 #[p,k] w (aK w (.tuple #[.string (d.read k).1,.int .i64 (d.read k).2])):=by
 have j:=zh h;obtain⟨L,M,N,O,h⟩:=h;have H:=zh h;have t:=zh r;have u:=h.ok.2.2.1;unfold aQ at r u;clear h;by_cases i:d.on=false
 ·have a:=zh (show d.read k=(ByteArray.empty,14) from NH i)
  have f:=zh i;clear i;go_enter func374,ntmps374;go_wp2_with fail;refine zb (eN j) λl g=>?_
  rw[f];go_wp2;go_ret2;rw[a];exact⟨rfl,g⟩
 ·have f:=zh (show d.on=true by simpa using i)
  clear i;by_cases v:k<0
  ·have a:=zh (show d.read k=(ByteArray.empty,15) by unfold DV.read;rw[NB (by rw[f];simp),NH (.inl v)])
   go_enter func374,ntmps374;go_wp2_with fail;refine zb (eN j) λl g=>?_
   rw[f];go_wp2;go_ret2;rw[a];exact⟨rfl,g⟩
  ·by_cases y:d.blocks<=k
   ·have a:=zh (show d.read k=(ByteArray.empty,15) by unfold DV.read;rw[NB (by rw[f];simp),NH (.inr y)])
    go_enter func374,ntmps374;go_wp2_with fail;refine zb (eN j) λl g=>?_
    rw[f];have m:=H.step g;obtain⟨c0,A,C,D,E,F,I,J,K⟩:=gh m.blk;go_wp2;go_ret2;rw[a];exact⟨rfl,g⟩
   ·obtain⟨x,q⟩:=zy (d.now k)
    have a:=zh (show d.read k=Es x by unfold DV.read;rw[NB (by rw[f];simp),NB zo,q]);go_enter func374,ntmps374;go_wp2_with fail;refine zb (eN j) λl n=>?_
    rw[f];have m:=H.step n;obtain⟨c0,A,C,D,E,F,I,J,K⟩:=gh m.blk;have o:=m.now.look (k:=k) (gn t);rw[<-q] at o;cases x with
    |some s=>
     simp only[Er] at o;go_wp2;go_ret2;rw[a];exact⟨rfl,n⟩
    |none=>
     simp only[Er] at o;go_wp2_with fail;refine(strings_Repeat ⟨#[0]⟩ 256 l zd zd).mono ?_;rintro e P ⟨rfl,g⟩;go_wp2;go_ret2;rw[a];exact⟨rfl,ai n g⟩
end
def ib(keep:List Int)(k:Nat):Bool:=decide (k<keep.length)&&decide (keep.getD k 0%2=1)
def HM(keep:List Int)(a:List (Int×Qt))(f:Int->Option Qt)(k:Nat):Int->Option Qt:=
 if ib keep k=true then oY f (a.getD k w0).1 (a.getD k w0).2 else f
def oZ(keep:List Int)(a:List (Int×Qt))(f:Int->Option Qt):Nat->(Int->Option Qt)
 |0=>f
 |k+1=>HM keep a (oZ keep a f k) k
def DV.cut(d:DV)(keep:List Int):DV:=
 if d.on=true then{d with on:=false,armed:=false,left:= -1,keep:= [],now:=oZ keep d.waits d.lasts d.waits.length,lasts:=oZ keep d.waits d.lasts d.waits.length,waits:= []}
 else{d with armed:=false,left:= -1,keep:= []}
def DV.cutN(d:DV):Int:=if d.on=true then d.waits.length else 0
def ja(w:Qm)(p:Nat)(v:Qn)(l:List Int):Prop:=aE w v l/\ ∀b o s n c,v= .slice (some ⟨b,o,s⟩) n c->l≠ []-> ¬cL w p b
def ja.step{w w':Qm}{p:Nat}{v:Qn}{l:List Int}(B:ja w p v l)(h:cS p w w'):ja w' p v l:=by
 obtain⟨⟨a,c,rfl,q,r,i⟩,k⟩:=B;refine⟨⟨a,c,rfl,q,r,λd=>?_⟩,λb o s n c' e d f=>?_⟩
 ·obtain⟨b,o,rfl,g,t⟩:=i d
  have u:=h.block b g (k b o none _ _ rfl d);have x: ∀o',w'.cell? ⟨b,o',none⟩=w.cell? ⟨b,o',none⟩:=λo'=>by unfold World.cell?;rw[u]
  exact⟨b,o,rfl,No g h.size,λj y=>by rw[x];exact t j y⟩
 ·obtain⟨A,o',m,g,_⟩:=i d
  injection e with e C D
  rw[m] at e;injection e with e;injection e with e
  subst e;rcases h.own _ f with f|f
  ·exact k A o' none _ _ (by rw[m]) d f
  ·omega
def DP.keep_out{w:Qm}{B p c:Nat}{d:DV}{g m:Qn}{q r:Nat}(f:DP w B p c d g m q r):ja w p g d.keep:=by
 refine⟨f.keep.1,λb o s n c' e h a=>?_⟩;obtain⟨i,j,k,l⟩:=f.apart.2.2.2 b o s n c' e h;rw[f.own_iff] at a;rcases a with a|a|a|a
 ·exact i a
 ·exact j a
 ·exact k a
 ·exact l a
def ja.bit{w:Qm}{p:Nat}{a:Option Addr}{n c:Nat}{l:List Int}(d:ja w p (.slice a n c) l){k:Nat}(f:k<l.length): ∃b o,a=some ⟨b,o,none⟩/\b<w.heap.size/\w.cell? ⟨b,o+k,none⟩=some (.int .i64 (l.getD k 0))/\aQ (l.getD k 0):=by
 obtain⟨⟨r,c',e,g,s,h⟩,_⟩:=d;injection e with i t u
 obtain⟨b,o,j,m,q⟩:=h (by intro d;simp[d] at f);exact⟨b,o,i.trans j,m,q k f,g _ (by rw[Nr,Np f];exact NT _)⟩
def Mr(x:Int):bits .and .i64 x 1=x%2:=by
 show IntKind.i64.wrap ((BitVec.ofInt 64 x&&&BitVec.ofInt 64 1).toNat:Int)=_;have a:(BitVec.ofInt 64 1).toNat=1:=rfl;rw[BitVec.toNat_and,a,Nat.and_one_is_mod,BitVec.toNat_ofInt,IntKind.wrap_i64];omega
structure im(w wr:Qm)(B p n2:Nat)(d1:DV)(kv wv:Qn)(mb lb:Nat)(f:Int->Option Qt):Prop where
 row:wr.heap[p]?=some (.cells #[.bool true,.int .i64 d1.writes,.bool d1.armed,.int .i64 d1.left,kv,.int .i64 d1.blocks,.map (some mb),.map (some lb),wv] 152)
 lasts:de wr lb n2 f
 waits:wr.ownsRow B 276 2 wv d1.waits.length (iF d1.waits)
 step:cS p w wr
def im.step_{w wr w':Qm}{B p n2:Nat}{d:DV}{e h:Qn}{i j:Nat}{f:Int->Option Qt}(a:im w wr B p n2 d e h i j f)(c:Qr wr.heap.size wr w'):im w w' B p n2 d e h i j f:=
 ⟨ab a.row c,a.lasts.step (c.block _ a.lasts.lt),aZ a.waits (λg k=>c.block g (ar a.waits k).2.1),a.step.trans (cS.of_below c (aa a.row))⟩
def im.put{w wr w':Qm}{B p n2:Nat}{c:DV}{m j:Qn}{l h:Nat}{f u:Int->Option Qt}(d:im w wr B p n2 c m j l h f)(I:de w' h (n2+1) u)(i:wr.grownBy w' (some h)):im w w' B p (n2+1) c m j l h u:=by
 obtain⟨es,J,q⟩:=d.lasts.map;have y:p≠h:=λe=>by have:=d.row;rw[e,q] at this;cases this
 have r:w'.heap[p]?=some (.cells #[true,(c.writes:Int),c.armed,(c.left:Int),m,(c.blocks:Int),.map (some l),.map (some h),j] 152):=(i.block p (aa d.row) (λe=>y (by injection e))).trans d.row
 have n: ∀x:Qm,x.heap[p]?=some (.cells #[true,(c.writes:Int),c.armed,(c.left:Int),m,(c.blocks:Int),.map (some l),.map (some h),j] 152)-> ∀k,cL x p k↔k=p\/k=l\/k=h\/j.ownBlock=some k:=λx A k=>by
  obtain⟨_,_,_,_,_,_,C,D,E⟩:=gh A;unfold cL;rw[C,D,E]
  constructor
  ·rintro(a|a|a|⟨v,a,F⟩)
   ·exact .inl a
   ·exact .inr (.inl (by injection a with a;injection a with a;injection a with a;exact a.symm))
   ·exact .inr (.inr (.inl (by injection a with a;injection a with a;injection a with a;exact a.symm)))
   ·injection a with a;subst a;exact .inr (.inr (.inr F))
  ·rintro(a|a|a|a)
   ·exact .inl a
   ·exact .inr (.inl (by rw[a]))
   ·exact .inr (.inr (.inl (by rw[a])))
   ·exact .inr (.inr (.inr ⟨_,rfl,a⟩))
 refine⟨r,I,aZ d.waits (λg s=>i.block g (ar d.waits s).2.1 (λe=>?_)),d.step.trans ⟨i.os,i.tape,i.output,i.size,λk o H=>i.block k o (λe=>H ((n _ d.row k).2 (.inr (.inr (.inl (by injection e)))))),λk o=> .inl ((n _ d.row k).2 ((n _ r k).1 o))⟩⟩;obtain⟨_,_,K,t⟩:=ar d.waits s;injection e with e
 rw[e,q] at t;cases t
section
variable{w:Qm}{B p c:Nat}{d:DV}
def tP(v:Qn)(keep:List Int)(h2:Qs (bg w B p c d))(e6:ja w p v keep)(j5:c<=1000000):
 Qo zP 170 #[p,v] w (qd w B p c (d.cut keep) (.int .i64 d.cutN)):=by
 have e7:=zh e6;obtain⟨⟨va,vc,rfl,_⟩,_⟩:=e6;go_enter func170,ntmps170;go_wp2_with fail;refine(HL (-1) _ [] h2 (fg _) (by unfold aQ;omega) zd).mono ?_;rintro e E ⟨rfl,a2,a3⟩;have c2:=zh a2;obtain⟨a,s⟩:=zy (d.arm (-1) []);rw[<-s] at c2 a2;obtain⟨t,V,W,i,f⟩:=a2;have o:=zh f;obtain⟨h3,h4,a4⟩:=az f.waits;have a5:=zh a4;obtain⟨c0,F,H,I,J,K,M,u,q⟩:=gh f.blk;rw[a4] at q;clear f a4;cases hon:a.on
 ·rw[hon] at c0
  have a6:=zh hon;clear hon;go_wp2;go_ret;have P:d.on=false:=by have:=a6.out;rw[s] at this;exact this
  have a7:d.cut keep=a:=by
   rw[s];unfold DV.cut DV.arm;rw[NB (by rw[P];simp)];rfl
  exact⟨bp (by unfold DV.cutN;rw[NB (by rw[P];simp)]),by rw[a7];exact c2,a3⟩
 ·rw[hon] at c0
  have a6:=zh hon;obtain⟨n,a8⟩:=zx a.waits.length;rw[<-a8] at q a5;have N:=zh a8;obtain⟨n2,e8,c3⟩:=o.lasts;have h5:n<=1000000:=zo;have h6:n2+n<=c:=zo;have c4:E.heap[p]?=some (.cells #[true,(a.writes:Int),a.armed,(a.left:Int),t,(a.blocks:Int),.map (some W),.map (some i),V] 152):=by rw[<-hon];exact o.blk
  have h:=zh (show im E E B p (n2+0) a t V W i (oZ keep a.waits a.lasts 0) from⟨c4,c3,o.waits,cS.refl _ _⟩);have e9:=e7.step a3;clear hon a8 c3 c4 e8;go_wp2_with fail;clear c0 F H I J K M u q;go_loopw [26] (λx wr=> ∃k,k<=n/\x= .int .i64 k/\Qs (im E wr B p (n2+k) a t V W i (oZ keep a.waits a.lasts k))) (λx _=>n-(intOf x).toNat)
  case atStart=>exact⟨0,Nx _,rfl,h⟩
  case round=>
   obtain⟨k,X,rfl,h⟩:=hrel;by_cases a9:k<n
   ·obtain⟨g,cap,ev,_⟩:=h.waits.form (by have:=N.out;omega)
    rw[a5] at ev;injection ev with f0 f1 f2
    subst f0 f2
    obtain⟨c5,c6⟩:wr.cell? ⟨g,k*2,none⟩=some (.int .i64 (a.waits.getD k w0).1)/\wr.cell? ⟨g,k*2+1,none⟩=some (.string (a.waits.getD k w0).2):=by
     have b0:=h.waits;rw[a5,<-N] at b0;have b1:k<a.waits.length:=by rw[<-N];exact a9
     obtain⟨f3,f4⟩:=qb a.waits k b1;exact⟨(b0.cellAt (k*2) zo).trans f3,(b0.cellAt (k*2+1) zo).trans f4⟩
    have Q:=o.ok.2.2.2 (a.waits.getD k w0) (by
     have b1:k<a.waits.length:=by rw[<-N];exact a9
     rw[Nr,Np b1];exact NT _)
    have R:=zh (show oZ keep a.waits a.lasts (k+1)=if ib keep k=true then oY (oZ keep a.waits a.lasts k) (a.waits.getD k w0).1 (a.waits.getD k w0).2 else oZ keep a.waits a.lasts k from rfl);obtain⟨at_,c7⟩:=zx ((a.waits.getD k w0).1);obtain⟨data,c8⟩:=zx ((a.waits.getD k w0).2);rw[<-c7] at c5 Q R;rw[<-c8] at c6 Q R;have c9:=zh Q;have Y:=zh (show(wr.alloc (.cells #[(at_:Int),data] 276)).heap[wr.heap.size]?=some (.cells #[(at_:Int),data] 276) from ag rfl);have l:=h.step_ (ak wr (.cells #[(at_:Int),data] 276));have h7:data.size<=9223372036854775807:=Q.2;clear c7 c8 Q f1;by_cases b2:k<keep.length
    ·obtain⟨h8,h9,f5,i0,y,d0⟩:=(e9.step h.step).bit b2
     subst f5;obtain⟨x,b3⟩:=zx (keep.getD k 0);rw[<-b3] at y d0;have d1:=zh b3;have d2:=Mr x;unfold aQ at d0;have f6:(k:Int)<keep.length:=zo;clear b3;by_cases m:x%2=1
     ·have S:=zh (show ib keep k=true by unfold ib;rw[<-d1];simp;exact⟨b2,m⟩)
      rw[m] at d2;clear m;go_wp2_with fail;obtain⟨O,d3⟩:=zx wr.heap.size;rw[<-d3] at Y⊢;obtain⟨Z,d4⟩:=zx (wr.alloc (.cells #[(at_:Int),data] 276));rw[<-d4] at Y l⊢;have b4:=l;have b5:=Y;clear d4 d3 c5 c6 y;obtain⟨c0,F,H,I,J,K,M,u,q⟩:=gh b4.row
      obtain⟨d5,d6⟩:Z.cell? ⟨O,0,none⟩=some (.int .i64 at_)/\Z.cell? ⟨O,1,none⟩=some (.string data):=by
       constructor<;>(rw[NA Z O _ _ _ _ b5];rfl)
      refine zI (λw'=>(im E w' B p (n2+k) a t V W i (oZ keep a.waits a.lasts k)/\w'.heap[O]?=some (.cells #[(at_:Int),data] 276))/\w'.cell? ⟨p,7,none⟩=some (.map (some i))/\w'.cell? ⟨O,0,none⟩=some (.int .i64 at_)/\w'.cell? ⟨O,1,none⟩=some (.string data)) 8 (zL [?_,?_,?_,?_,?_,?_,?_,?_]) (λE Z r m=>⟨⟨r.1.1.step_ m,ab r.1.2 m⟩,ae r.2.1 m,ae r.2.2.1 m,ae r.2.2.2 m⟩) (⟨⟨b4.step_ zr.drew,b5⟩,u,d5,d6⟩) ?_;rotate_right
      iterate 8
       refine zW ?_
      refine zA λi1 d7 f7=>?_
      have d8:=zh d7.1.1;clear d7 f7 c0 F H I J K M u q d5 d6 l b4 Y b5;refine lh rfl (.tmp 46) (.tmp 48) (.tmp 50) rfl i (n2+k) _ at_ data rfl rfl rfl d8.lasts zo c9.1 c9.2 ?_;intro w7 d9 e0;have f8:=d8.put d9.out e0.out;clear d9 e0;go_wp2;go_roundw
      case rel=>exact⟨k+1,zo,by go_num,zh (by rw[R,NH S.out];exact f8)⟩
      case measure=>simp[intOf];omega
     ·have S:=zh (show¬ib keep k=true by unfold ib;rw[<-d1];simp;intro _;omega)
      have e1:x%2=0:=zo;rw[e1] at d2;clear m e1;go_wp2;go_roundw
      case rel=>exact⟨k+1,zo,by go_num,zh (by rw[R,NB S.out];exact⟨l.row,l.lasts.mono zo,l.waits,l.step⟩)⟩
      case measure=>simp[intOf];omega
    ·have S:=zh (show¬ib keep k=true by unfold ib;simp;intro r;omega)
     have f6:(keep.length:Int)<=k:=zo;clear b2;go_wp2;go_roundw
     case rel=>exact⟨k+1,zo,by go_num,zh (by rw[R,NB S.out];exact⟨l.row,l.lasts.mono zo,l.waits,l.step⟩)⟩
     case measure=>simp[intOf];omega
   ·have f9:k=n:=zo
    subst f9;obtain⟨c0,F,H,I,J,K,M,u,q⟩:=gh h.row;clear a9;go_wp2_with fail;refine(xJ i _ _ _ h.lasts).mono ?_;rintro e a0 ⟨A,rfl,g0,e2,b6⟩;have a1:=h.step_ b6;have b7:=zh g0;clear c0 F H I J K M u q;obtain⟨i2,i3,i4,i5,i6,i7,i8,i9,j0⟩:=qc a1.row;obtain⟨c0,F,H,I,J,K,M,u,q⟩:=gh a1.row;go_wp2;go_ret;have g1:=a1.row;obtain⟨L,b8⟩:=zx (oZ keep a.waits a.lasts k);have j1:A<a0.heap.size:=e2.lt;have g2:A≠p:=by have:=b7.out;have:=aa h.row;omega
    have j2:=h.lasts.lt
    have g3:i≠p:=by
     obtain⟨es,j3,g4⟩:=h.lasts.map;intro e;have:=h.row;rw[<-e,g4] at this;cases this
    obtain⟨C,D⟩:=zx (((a0.setCell ⟨p,6,none⟩ (.map (some A))).setCell ⟨p,8,none⟩ (.slice none 0 0)).setCell ⟨p,0,none⟩ (.bool false));rw[<-D];have b9: ∀k,k≠p->C.heap[k]?=a0.heap[k]?:=λk X=>by rw[D,af _ X,af _ X,af _ X]
    have j4:C.heap.size=a0.heap.size:=by rw[D];simp
    have e3:C.heap[p]?=some (.cells #[false,(a.writes:Int),a.armed,(a.left:Int),t,(a.blocks:Int),.map (some A),.map (some i),z0] 152):=by
     rw[D,al (al (al g1 _) _) _];rfl
    have c1:=o.ok;have e4:a.keep= []:=by rw[s];rfl
    have e5:=o.keep;rw[e4] at e5;have P:d.on=true:=by have:=a6.out;rw[s] at this;exact this
    have a7:d.cut keep={a with on:=false,now:=L,lasts:=L,waits:= []}:=by
     rw[b8,N,s];unfold DV.cut DV.arm;rw[NH P];rfl
    have g5:DP C B p c (d.cut keep) t (.slice none 0 0) A i:=by
     rw[a7];refine⟨e3,?_,?_,?_,World.ownsRow_nil _ _ _ _,zo,⟨o.ge.1,by have:=b7.out;have:=o.ge.1;have:=aa h.row;omega,o.ge.2.2⟩,⟨c1.1,c1.2.1,c1.2.2.1,zm⟩⟩
     ·show gY C t a.keep
      rw[e4];exact e5.step (by have:=h.step.size;have:=b6.size;omega) (λ_ _ _ _ _ _ r=>absurd rfl r)
     ·show de C A c L
      rw[b8];exact(e2.step (b9 A g2)).mono zo
     ·refine⟨n2+k,by simp;omega,?_⟩
      show de C i (n2+k) L;rw[b8];exact a1.lasts.step (b9 i g3)
    refine⟨bp (by unfold DV.cutN;rw[NH P];have:=N.out;rw[s] at this;rw[this];rfl),⟨_,_,_,_,g5⟩,a3.trans (h.step.trans ?_)⟩;have T:=b6.out;refine⟨by rw[D];exact T.os,by rw[D];exact T.tape,by rw[D];exact T.output,by have:=T.size;omega,λj U g6=>?_,λj U=>?_⟩
    ·rw[b9 j (λe=>g6 (.inl e)),T.block j U]
    ·obtain⟨_,_,_,_,_,_,g7,g8,g9⟩:=gh e3
     unfold cL at U;rw[g7,g8,g9] at U;rcases U with f|f|f|⟨v,f,h0⟩
     ·exact .inl (.inl f)
     ·injection f with f;injection f with f;injection f with f
      have:=b7.out;exact .inr zo
     ·injection f with f;injection f with f;injection f with f
      obtain⟨_,_,_,_,_,_,_,h1,_⟩:=gh h.row;exact .inl (.inr (.inr (.inl (by rw[h1,f]))))
     ·injection f with f;subst f;cases h0
end
def DV.put(d:DV)(k:Int)(s:Qt):DV:={d with now:=oY d.now k s,waits:=d.waits++ [(k,s)]}
def DV.write(d:DV)(k:Int)(s:Qt):DV×Int:=
 if d.on=false then(d,14) else if s.size≠256 then(d,1) else if k<0\/d.blocks<=k then(d,15)
 else if d.armed=true/\d.left<=0 then(d.cut d.keep,14) else(d.spent.put k s,0)
def dO{w w':Qm}{b o:Nat}{v:Qn}{r:Option Nat}(a:w.cell? ⟨b,o,none⟩=some v)(d:w.grownBy w' r)(e:some b≠r):w'.cell? ⟨b,o,none⟩=some v:=by
 have c:=Nv w _ a;have:=d.block b c e;unfold World.cell? at a⊢;rw[this];exact a
def BN(w:Qm)(v u:Qn)(T:Qp): ∀(j:Nat) (x:Qn),[v,u][j]?=some x->(w.alloc (.cells #[v,u] T)).cell? ((⟨w.heap.size,0,none⟩:Addr).add j)=some x:=by
 intro j x a;rw[pK,NA _ _ _ _ _ _ (Nu w _),Ok];simpa using a
def xL:(zP.info? 276).map (λi=>(i.zero,i.size,i.bytes))=some (some (.agg #[(),ByteArray.empty]),2,24):=zk
def xM(l:List (Int×Qt))(k:Int)(s:Qt):iF (l++ [(k,s)])=iF l++ [.int .i64 k,.string s]:=by simp[iF]
def DV.put_len(d:DV)(k:Int)(s:Qt):(d.put k s).waits.length=d.waits.length+1:=by simp[DV.put]
def DP.wrote{l v N h:Qm}{B p c:Nat}{d:DV}{H w v':Qn}{f r:Nat}{k:Int}{s:Qt}(a:DP l B p c d H w f r)(Z:HD k)(a0:s.size<=9223372036854775807)
 (a1:de v f (c+1) (oY d.now k s)) (y:l.grownBy v (some f)) (t:Qr v.heap.size v N) (u:N.grownBy h w.ownBlock)
 (O:h.ownsRow B 276 2 v' (d.put k s).waits.length (iF (d.put k s).waits)) (a2: ∀g,v'.ownBlock=some g->w.ownBlock=some g\/l.heap.size<=g):
 DP (h.setCell ⟨p,8,none⟩ v') B p (c+1) (d.put k s) H v' f r/\cS p l (h.setCell ⟨p,8,none⟩ v'):=by
 obtain⟨I,P,D,Q⟩:=a.apart;obtain⟨n,a3,J⟩:=a.lasts;have a4: ∀j,w.ownBlock=some j->j<l.heap.size:=λj i=>(ar a.waits i).2.1
 have a5:=y.size;have a6:=t.size;have a7:=u.size
 have A: ∀j,j<l.heap.size->j≠f->w.ownBlock≠some j->h.heap[j]?=l.heap[j]?:=λj i E F=>by
  rw[u.block j zo (λe=>F e.symm),t.block j zo,y.block j i (λe=>E (by injection e))]
 have K:=(A p a.lt I (λe=>(D p e).1 rfl)).trans a.blk
 have R:v'.ownBlock≠some p:=λe=>by
  obtain⟨_,_,a8,q⟩:=ar O e;rw[K] at q;injection q with q;injection q with _ q;exact absurd q zd
 have S:h.heap[f]?=v.heap[f]?:=by
  have:=a.now.lt;rw[u.block f zo (λe=>(D f e.symm).2.1 rfl),t.block f zo]
 have fr: ∀j,j≠p->(h.setCell ⟨p,8,none⟩ v').heap[j]?=h.heap[j]?:=λj i=>af _ i
 have L:DP (h.setCell ⟨p,8,none⟩ v') B p (c+1) (d.put k s) H v' f r:=by
  refine⟨by rw[al K];rfl,a.keep.step zu (λb o s' m c' e M=>?_),a1.step ((fr f I.symm).trans S),⟨n,by rw[DV.put_len];omega,J.step ?_⟩,aZ O (λg T=>fr g (λe=>R (e▸T))),a.ne,a.ge,⟨a.ok.1,a.ok.2.1,a.ok.2.2.1,?_⟩⟩
  ·obtain⟨U,V,a9,W⟩:=Q b o s' m c' e M
   obtain⟨b0,b1,X⟩:=a.keep.2 b o s' m c' e M;rw[fr b U,A b (aa X) V W]
  ·rw[fr r P.symm,A r J.lt a.ne.symm (λe=>(D r e).2.2 rfl)]
  ·intro x C
   simp only[DV.put,Og,Nz] at C;rcases C with C|rfl
   ·exact a.ok.2.2.2 x C
   ·exact⟨Z,a0⟩
 refine⟨L,a.dstep L ?_ ?_ ?_ zu (λj i E F b2 Y=>by rw[fr j E,A j i F Y]) (.inl rfl) (.inl rfl) a2⟩
 ·exact u.os.trans (t.os.trans y.os)
 ·exact u.tape.trans (t.tape.trans y.tape)
 ·exact u.output.trans (t.output.trans y.output)
section
variable{w:Qm}{B p c:Nat}{d:DV}
def BO(at_:Int)(data:Qt)(h:bg w B p c d)(g0:c+1<=1000000)(c3:aQ at_)(f0:Qs (0<=d.writes/\d.writes<=1000000000000))
 (f1:Qs (d.on=true)) (f2:data.size=256) (g1:0<=at_/\at_<d.blocks) (f3:Qs (d.armed=true->0<d.left)):
 Qo zP 181 #[p,at_,data] w (qd w B p (c+1) (d.spent.put at_ data) (.int .i64 0)):=by
 obtain⟨c4,c5,c6,c7,c8⟩:=info_parts xL;have P:=zh h;have a1:=zh c3;have f4:(data.size:Int)=256:=zo;have c9:aQ d.blocks:=by obtain⟨Q,m,v,R,h⟩:=h;exact h.ok.2.2.1
 have T:=zh (zo:data.size<=281474976710656);unfold aQ at c3 c9;clear h f2;go_enter func181,ntmps181;go_wp2_with fail;refine zb (eN P) λd0 k=>?_
 rw[f1];have a2:=zh (P.step k);have d1:=P.dstep k;obtain⟨Q,m,v,R,a3⟩:=a2.out;obtain⟨c0,D,E,F,H,I,x,J,o⟩:=gh a3.blk;clear a3;go_wp2_with fail;refine(Av a2 f0 f3).mono ?_;rintro e d2 ⟨rfl,a4,d3⟩;have d4:=d1.trans d3;clear c0 D E F H I x J o;go_wp2_with fail;refine zb (eV data _ T) λq k=>?_
 obtain⟨r,a5⟩:=zy d.spent;obtain⟨Q,m,v,R,U⟩:bg q B p c r:=by rw[a5];exact a4.step k
 have a6:=zh (show∀g,m.ownBlock=some g->g≠q.heap.size from λg y=>by have:=(ar U.waits y).2.1;omega);have V:=U.step (ak q (.cells #[at_,data] 276));have W:=d4.trans (a4.dstep (ai k (ak q (.cells #[at_,data] 276))));have L:=zh (show(q.alloc (.cells #[at_,data] 276)).heap[q.heap.size]?=some (.cells #[at_,data] 276) from ag rfl);clear U;go_wp2_with fail;obtain⟨i,a7⟩:=zx q.heap.size;rw[<-a7] at L a6⊢;obtain⟨X,a8⟩:=zx (q.alloc (.cells #[at_,data] 276));rw[<-a8] at L V W⊢;have a9:=W;have Y:=L;have M:=V;clear a8 a7 L W V;obtain⟨c0,D,E,F,H,I,x,J,o⟩:=gh M.blk
 obtain⟨A,s⟩:X.cell? ⟨i,0,none⟩=some (.int .i64 at_)/\X.cell? ⟨i,1,none⟩=some (.string data):=by
  constructor<;>(rw[NA X i _ _ _ _ Y];rfl)
 refine zI (λw'=>(DP w' B p c r Q m v R/\cS p w w'/\w'.heap[i]?=some (.cells #[at_,data] 276))/\w'.cell? ⟨p,6,none⟩=some (.map (some v))/\w'.cell? ⟨i,1,none⟩=some (.string data)) 7 (zL [?_,?_,?_,?_,?_,?_,?_]) (λd0 d2 h k=>⟨⟨h.1.1.step k,h.1.2.1.trans (cS.of_below k h.1.1.lt),ab h.1.2.2 k⟩,ae h.2.1 k,ae h.2.2 k⟩) (⟨⟨M.step zr.drew,a9.trans (cS.of_below zr.drew M.lt),Y⟩,x,s⟩) ?_;rotate_right
 iterate 7
  refine zW ?_
 refine zA λd5 N d6=>?_
 have f:=zh (And.intro N.1.1 (And.intro trivial N.1.2.2));have d7:=N.1.2.1;clear N d6 c0 D E F H I x J o A s M a9 Y;refine lh rfl (.tmp 45) (.tmp 46) (.tmp 48) rfl v c _ at_ data rfl rfl rfl f.1.now zo (gn a1) (by have:=T.out;omega) ?_;intro l b0 C;have d8:=b0;have b1:=C;have b2:l.heap[p]?=d5.heap[p]?:=C.out.block p f.1.lt (λe=>f.1.apart.1 (by injection e));have O:=b2.trans f.1.blk;have b3:=zh O
 have b4:v≠i:=λe=>by
  obtain⟨es,f5,d9⟩:=f.1.now.map;have:=f.2.2;rw[<-e,d9] at this;cases this
 have b5:l.heap[i]?=some (.cells #[at_,data] 276):=(C.out.block i (aa f.2.2) (λe=>b4 (by injection e with e;exact e.symm))).trans f.2.2;have e0:=zh (aZ f.1.waits (λg y=>C.out.block g (ar f.1.waits y).2.1 (λe=>(f.1.apart.2.2.1 g y).2.1 (by injection e))));have b6:=zh (show r.waits.length<=1000000 by obtain⟨n,f6,_⟩:=f.1.lasts;omega);have e1:=zh (show B<=(l.alloc (.cells #[at_,data] 276)).heap.size by have:=f.1.ge.1;have:=f.1.lt;have:=C.out.size;simp;omega);have K:some p≠m.ownBlock:=λe=>(f.1.apart.2.2.1 p e.symm).1 rfl
 have t:some i≠m.ownBlock:=λe=>a6 i e.symm rfl
 obtain⟨c0,D,E,F,H,I,x,J,o⟩:=gh O
 obtain⟨A,s⟩:l.cell? ⟨i,0,none⟩=some (.int .i64 at_)/\l.cell? ⟨i,1,none⟩=some (.string data):=by
  constructor<;>(rw[NA l i _ _ _ _ b5];rfl)
 have e2:=(qc O).2.2.2.2.2.2.2.2;clear b0 C b2 O b4 b5;go_wp2_with fail;refine aC (S:=(λw'=>w'.cell? ⟨p,8,none⟩=some m/\w'.cell? ⟨i,0,none⟩=some (.int .i64 at_)/\w'.cell? ⟨i,1,none⟩=some (.string data))) 10 zk ?_ (λa=>?_)
 ·(first|exact⟨o,A,s⟩|exact⟨ae a.1 ze,ae a.2.1 ze,ae a.2.2 ze⟩|exact⟨dO a.1 j K,dO a.2.1 j t,dO a.2.2 j t⟩)
 refine zU 0 ?_;refine zU 1 ?_;refine zU 2 ?_;refine zU 3 ?_;refine zU 4 ?_;refine zU 5 ?_;refine zO 6 λe3 Z=>?_
 go_simp
 skip
 refine zE Z (by first|exact⟨o,A,s⟩|exact⟨ae a.1 ze,ae a.2.1 ze,ae a.2.2 ze⟩|exact⟨dO a.1 j K,dO a.2.1 j t,dO a.2.2 j t⟩) λa=>?_
 refine zO 7 λe3 Z=>?_
 refine step_append_lies _ rfl (.tmp 53) (.tmp 55) 150 rfl B 276 c4 (.agg #[(),ByteArray.empty]) 2 24 underlying150 c5 c6 c7 c8 rfl zd m r.waits.length (iF r.waits) rfl (e0.alloc _) ⟨l.heap.size,0,none⟩ 1 1 [.int .i64 at_,.string data] rfl rfl (BN _ _ _ _) (by intro u b7;simp at b7;rcases b7 with rfl|rfl<;>rfl) zd (by have:=b6.out;unfold maxLen;omega) (by have:=b6.out;omega) e1 (l.heap.size+1) zm ?_;intro b8 e4 f7 a0 j b9 e5;(try simp only[Ok,Ol] at a0);refine zE Z (by first|exact⟨o,A,s⟩|exact⟨ae a.1 ze,ae a.2.1 ze,ae a.2.2 ze⟩|exact⟨dO a.1 j K,dO a.2.1 j t,dO a.2.2 j t⟩) λa=>?_
 refine zU 8 ?_;refine zU 9 ?_;refine zF ?_;have c1:=(j.block p (by have:=aa b3;simp;omega) K).trans (ab (ab b3 zr.drew) (ak l.drew (.cells #[at_,data] 276)));have e6:=zh j;have e7:=zh a0;have e8:=zh b9;have f8:=(qc c1).2.2.2.2.2.2.2.2;have f9:=a.1;clear a j a0 b9 e5 c0 D E F H I x J o A s e2 c1 K t;go_wp2;go_ret
 have c2:=DP.wrote (v':= .slice (some ⟨b8,0,none⟩) (r.waits.length+1) e4) f.1 (gn a1) (by have:=T.out;omega) d8 b1 (ai zr.drew (ak l.drew (.cells #[at_,data] 276))) e6
  (by rw[DV.put_len,show(r.put at_ data).waits=r.waits++ [(at_,data)] from rfl,xM];exact e7)
  (λg y=>by
   have e9:b8=g:=by simpa[Value.ownBlock] using y
   rcases e8.out with h|h
   ·exact .inl (by rw[h,e9])
   ·right;have:=b1.size;omega)
 rw[<-a5];exact⟨rfl,⟨_,_,_,_,c2.1⟩,(d7.trans c2.2)⟩
def gJ(at_:Int)(data:Qt)(f:bg w B p c d)(V:c+1<=1000000)(I:aQ at_)(J:0<=d.writes/\d.writes<=1000000000000)(a0:data.size<=9223372036854775807):
 Qo zP 181 #[p,at_,data] w (qd w B p (c+1) (d.write at_ data).1 (.int .i64 (d.write at_ data).2)):=by
 by_cases h:d.on=false
 ·rw[show d.write at_ data=(d,14) from NH h]
  have a:=zh f;have i:=zh h;clear f h;go_enter func181,ntmps181;go_wp2_with fail;refine zb (eN a) λD g=>?_
  rw[i];go_wp2;go_ret;exact⟨rfl,(a.step g).mono zo,a.dstep g⟩
 ·have i:=zh (show d.on=true by simpa using h)
  by_cases j:data.size=256
  ·by_cases K:0<=at_/\at_<d.blocks
   ·by_cases l:d.armed=true/\d.left<=0
    ·rw[show d.write at_ data=(d.cut d.keep,14) by unfold DV.write;rw[NB h,NB (by simpa using j),NB zo,NH l]]
     have a:=zh f;have L:=zh l;have M:(data.size:Int)=256:=zo;have E:aQ d.blocks:=by obtain⟨n,o,q,r,f⟩:=f;exact f.ok.2.2.1
     unfold aQ at I E;clear f h l j J;go_enter func181,ntmps181;go_wp2_with fail;refine zb (eN a) λD g=>?_
     rw[i];have k:=zh (a.step g);have F:=a.dstep g;obtain⟨n,o,q,r,m⟩:=k.out;obtain⟨c0,s,t,u,v,x,y,A,C⟩:=gh m.blk;clear m;go_wp2_with fail;refine zb (vh k L.1 L.2) λW g=>?_
     have N:=zh (k.step g);have O:=F.trans (k.dstep g);clear c0 s t u v x y A C;obtain⟨n,o,q,r,H⟩:=N.out;have P:=zh H.keep_out;obtain⟨c0,s,t,u,v,x,y,A,C⟩:=gh H.blk;clear H;go_wp2_with fail;refine(tP _ _ N P zo).mono ?_;rintro e X ⟨rfl,Q,R⟩;have S:=O.trans R;clear c0 s t u v x y A C;go_wp2;go_ret;exact⟨rfl,Q.mono zo,S⟩
    ·rw[show d.write at_ data=(d.spent.put at_ data,0) by unfold DV.write;rw[NB h,NB (by simpa using j),NB zo,NB l]]
     exact BO at_ data f V I J i j K (λT=>by
      by_cases U:0<d.left
      ·exact U
      ·exact absurd ⟨T,zo⟩ l)
   ·rw[show d.write at_ data=(d,15) by unfold DV.write;rw[NB h,NB (by simpa using j),NH zo]]
    have a:=zh f;have i:=zh i;have M:(data.size:Int)=256:=zo;have E:aQ d.blocks:=by obtain⟨n,o,q,r,f⟩:=f;exact f.ok.2.2.1
    unfold aQ at I E;clear f h j J;by_cases Y:at_<0
    all_goals
     (try(have Z:d.blocks<=at_:=zo))
     clear K;go_enter func181,ntmps181;go_wp2_with fail;refine zb (eN a) λD g=>?_
     rw[i];have k:=zh (a.step g);have F:=a.dstep g;obtain⟨n,o,q,r,m⟩:=k.out;obtain⟨c0,s,t,u,v,x,y,A,C⟩:=gh m.blk;clear m;go_wp2;go_ret;exact⟨rfl,k.mono zo,F⟩
  ·rw[show d.write at_ data=(d,1) by unfold DV.write;rw[NB h,NH j]]
   have a:=zh f;have i:=zh i;have M:((data.size:Int) !=256)=true:=by simp;omega
   clear f h j;go_enter func181,ntmps181;go_wp2_with fail;refine zb (eN a) λD g=>?_
   rw[i];go_wp2;go_ret;exact⟨rfl,(a.step g).mono zo,a.dstep g⟩
end
def jI(a:List (Int×Qt))(f:Int->Option Qt):Nat->(Int->Option Qt)
 |0=>f
 |k+1=>oY (jI a f k) (a.getD k w0).1 (a.getD k w0).2
def DV.flushed(d:DV):DV:={d with lasts:=jI d.waits d.lasts d.waits.length,waits:= []}
def DV.flush(d:DV):DV×Int:=
 if d.on=false then(d,14) else if d.armed=true/\d.left<=0 then(d.cut d.keep,14) else(d.spent.flushed,0)
structure lV(w wr:Qm)(B p c n2:Nat)(d1:DV)(kv wv:Qn)(mb lb:Nat)(f:Int->Option Qt):Prop where
 mid:im w wr B p n2 d1 kv wv mb lb f
 now:de wr mb c d1.now
 keep:gY wr kv d1.keep
def lV.step_{w wr w':Qm}{B p c n2:Nat}{g:DV}{h i:Qn}{j k:Nat}{f:Int->Option Qt}(a:lV w wr B p c n2 g h i j k f)(d:Qr wr.heap.size wr w'):lV w w' B p c n2 g h i j k f:=
 ⟨a.mid.step_ d,a.now.step (d.block _ a.now.lt),a.keep.step d.size (λb o s m c' e l=>by obtain⟨q,fr,n⟩:=a.keep.2 b o s m c' e l;exact d.block b (aa n))⟩
def lV.put{w wr w':Qm}{B p c n2:Nat}{j:DV}{k l:Qn}{i d:Nat}{f n:Int->Option Qt}(a:lV w wr B p c n2 j k l i d f)(t:de w' d (n2+1) n)(g:wr.grownBy w' (some d))(u:i≠d):lV w w' B p c (n2+1) j k l i d n:=by
 obtain⟨es,v,q⟩:=a.mid.lasts.map;refine⟨a.mid.put t g,a.now.step (g.block _ a.now.lt (λe=>u (by injection e))),a.keep.step g.size (λb o s m c' e r=>?_)⟩;obtain⟨x,fr,h⟩:=a.keep.2 b o s m c' e r;refine g.block b (aa h) (λe=>?_);injection e with e
 rw[e,q] at h;cases h
section
variable{w:Qm}{B p c:Nat}{d:DV}
def Et(a8:Qs (bg w B p c d))(h1:c<=1000000)(f1:Qs (0<=d.writes/\d.writes<=1000000000000))(c8:Qs (d.on=true))(f2:Qs (d.armed=true->0<d.left)):
 Qo zP 131 #[p] w (qd w B p c d.spent.flushed (.int .i64 0)):=by
 go_enter func131,ntmps131;go_wp2_with fail;refine zb (eN a8) λf3 q=>?_
 rw[c8];have c9:=a8.step q;have d0:=a8.dstep q;go_wp2_with fail;refine(Av c9 f1 f2).mono ?_;rintro e v ⟨rfl,a9,d1⟩;obtain⟨a,L⟩:=zx d.spent;have d2:=zh L;rw[<-L] at a9;have d3:=d0.trans d1;obtain⟨y,M,r,i,h⟩:=a9;have l:=zh h;have W:a.on=true:=by rw[L];exact c8
 obtain⟨f4,f5,X⟩:=az h.waits;have Y:=zh X;obtain⟨c0,N,O,P,Q,R,E,A,F⟩:=gh h.blk;obtain⟨n,S⟩:=zx a.waits.length;rw[X,<-S] at F;rw[<-S] at Y;have H:=zh S;obtain⟨n2,d4,b0⟩:=l.lasts;have f6:n<=1000000:=zo;have f7:n2+n<=c:=zo;have t:v.heap[p]?=some (.cells #[true,(a.writes:Int),a.armed,(a.left:Int),y,(a.blocks:Int),.map (some r),.map (some i),M] 152):=by rw[<-W];exact l.blk
 have f:=zh (show lV v v B p c (n2+0) a y M r i (jI a.waits a.lasts 0) from⟨⟨t,b0,l.waits,cS.refl _ _⟩,l.now,l.keep⟩);have d5:=zh W;clear h L X S b0 t d4 W;go_wp2_with fail;clear c0 N O P Q R E A F;go_loopw [25] (λx wr=> ∃k,k<=n/\x= .int .i64 k/\Qs (lV v wr B p c (n2+k) a y M r i (jI a.waits a.lasts k))) (λx _=>n-(intOf x).toNat)
 case atStart=>exact⟨0,Nx _,rfl,f⟩
 case round=>
  clear f;obtain⟨k,b1,rfl,f⟩:=hrel;by_cases Z:k<n
  ·obtain⟨g,cap,ev,_⟩:=f.mid.waits.form (by have:=H.out;omega)
   rw[Y] at ev;injection ev with d6 d7 d8
   subst d6 d8
   obtain⟨b2,b3⟩:wr.cell? ⟨g,k*2,none⟩=some (.int .i64 (a.waits.getD k w0).1)/\wr.cell? ⟨g,k*2+1,none⟩=some (.string (a.waits.getD k w0).2):=by
    have a0:=f.mid.waits;rw[Y,<-H] at a0;have a1:k<a.waits.length:=by rw[<-H];exact Z
    obtain⟨d9,e0⟩:=qb a.waits k a1;exact⟨(a0.cellAt (k*2) zo).trans d9,(a0.cellAt (k*2+1) zo).trans e0⟩
   have I:=l.ok.2.2.2 (a.waits.getD k w0) (by
    have a1:k<a.waits.length:=by rw[<-H];exact Z
    rw[Nr,Np a1];exact NT _)
   have a2:=zh (show jI a.waits a.lasts (k+1)=oY (jI a.waits a.lasts k) (a.waits.getD k w0).1 (a.waits.getD k w0).2 from rfl);obtain⟨at_,b4⟩:=zx ((a.waits.getD k w0).1);obtain⟨data,b5⟩:=zx ((a.waits.getD k w0).2);rw[<-b4] at b2 I a2;rw[<-b5] at b3 I a2;have b6:=zh I;have T:=zh (show(wr.alloc (.cells #[(at_:Int),data] 276)).heap[wr.heap.size]?=some (.cells #[(at_:Int),data] 276) from ag rfl);have a3:=f.step_ (ak wr (.cells #[(at_:Int),data] 276));have f8:data.size<=9223372036854775807:=I.2;clear b4 b5 I d7;go_wp2_with fail;obtain⟨C,b7⟩:=zx wr.heap.size;rw[<-b7] at T⊢;obtain⟨U,b8⟩:=zx (wr.alloc (.cells #[(at_:Int),data] 276));rw[<-b8] at T a3⊢;have a4:=a3;have a5:=T;clear b8 b7 b2 b3;obtain⟨c0,N,O,P,Q,R,E,A,F⟩:=gh a4.mid.row
   obtain⟨b9,c1⟩:U.cell? ⟨C,0,none⟩=some (.int .i64 at_)/\U.cell? ⟨C,1,none⟩=some (.string data):=by
    constructor<;>(rw[NA U C _ _ _ _ a5];rfl)
   refine zI (λw'=>(lV v w' B p c (n2+k) a y M r i (jI a.waits a.lasts k)/\w'.heap[C]?=some (.cells #[(at_:Int),data] 276))/\w'.cell? ⟨p,7,none⟩=some (.map (some i))/\w'.cell? ⟨C,0,none⟩=some (.int .i64 at_)/\w'.cell? ⟨C,1,none⟩=some (.string data)) 8 (zL [?_,?_,?_,?_,?_,?_,?_,?_]) (λv U J q=>⟨⟨J.1.1.step_ q,ab J.1.2 q⟩,ae J.2.1 q,ae J.2.2.1 q,ae J.2.2.2 q⟩) (⟨⟨a4.step_ zr.drew,a5⟩,A,b9,c1⟩) ?_;rotate_right
   iterate 8
    refine zW ?_
   refine zA λf9 c2 e1=>?_
   have c3:=zh c2.1.1;clear c2 e1 c0 N O P Q R E A F b9 c1 a3 a4 T a5;refine lh rfl (.tmp 32) (.tmp 34) (.tmp 36) rfl i (n2+k) _ at_ data rfl rfl rfl c3.mid.lasts zo b6.1 b6.2 ?_;intro w7 c4 c5;have e2:=c3.put c4.out c5.out l.ne;clear c4 c5;go_wp2;go_roundw
   case rel=>exact⟨k+1,zo,by go_num,zh (by rw[a2];exact e2)⟩
   case measure=>simp[intOf];omega
  ·have e3:k=n:=zo
   subst e3;obtain⟨c0,N,O,P,Q,R,E,A,F⟩:=gh f.mid.row;obtain⟨g0,g1,g2,g3,g4,g5,g6,g7,g8⟩:=qc f.mid.row;clear Z;go_wp2;go_ret;have t:=f.mid.row;obtain⟨K,u⟩:=zx (wr.setCell ⟨p,8,none⟩ (.slice none 0 0));rw[<-u];have V: ∀k,k≠p->K.heap[k]?=wr.heap[k]?:=λk b1=>by rw[u,af _ b1]
   have g9:K.heap.size=wr.heap.size:=by rw[u];simp
   have e4:K.heap[p]?=some (.cells #[true,(a.writes:Int),a.armed,(a.left:Int),y,(a.blocks:Int),.map (some r),.map (some i),z0] 152):=by
    rw[u,al t];rfl
   have a6:=l.ok
   have e5:i≠p:=by
    obtain⟨es,e6,a7⟩:=f.mid.lasts.map;intro e;have:=t;rw[<-e,a7] at this;cases this
   have e7:r≠p:=by
    obtain⟨es,e6,a7⟩:=f.now.map;intro e;have:=t;rw[<-e,a7] at this;cases this
   have c6:DP K B p c a.flushed y (.slice none 0 0) r i:=by
    refine⟨?_,f.keep.step zo (λb o s m c' e e8=>V b (λe9=>?_)),f.now.step (V r e7),⟨n2+k,by simp[DV.flushed];omega,?_⟩,World.ownsRow_nil _ _ _ _,l.ne,l.ge,⟨a6.1,a6.2.1,a6.2.2.1,by simp[DV.flushed]⟩⟩
    ·rw[e4];unfold DV.flushed;dsimp only;rw[d5]
    ·obtain⟨h0,fr,D⟩:=f.keep.2 b o s m c' e e8
     rw[e9,t] at D;injection D with D;injection D with _ D;exact absurd D zd
    ·show de K i (n2+k) (jI a.waits a.lasts a.waits.length)
     rw[<-H];exact f.mid.lasts.step (V i e5)
   rw[<-d2];refine⟨rfl,⟨_,_,_,_,c6⟩,d3.trans (f.mid.step.trans ?_)⟩;refine⟨by rw[u];rfl,by rw[u];rfl,by rw[u];rfl,zo,λj c7 f0=>V j (λe=>f0 (.inl e)),λj c7=>?_⟩;rcases(c6.own_iff j).1 c7 with h|h|h|h
   ·exact .inl (.inl h)
   ·exact .inl (.inr (.inl (by rw[E,h])))
   ·exact .inl (.inr (.inr (.inl (by rw[A,h]))))
   ·cases h
def iG(a:Qs (bg w B p c d))(K:c<=1000000)(n:0<=d.writes/\d.writes<=1000000000000):
 Qo zP 131 #[p] w (qd w B p c d.flush.1 (.int .i64 d.flush.2)):=by
 by_cases g:d.on=false
 ·rw[show d.flush=(d,14) from NH g]
  have i:=zh g;clear g;go_enter func131,ntmps131;go_wp2_with fail;refine zb (eN a) λo f=>?_
  rw[i];go_wp2;go_ret;exact⟨rfl,a.step f,a.dstep f⟩
 ·have i:=zh (show d.on=true by simpa using g)
  by_cases h:d.armed=true/\d.left<=0
  ·rw[show d.flush=(d.cut d.keep,14) by unfold DV.flush;rw[NB g,NH h]]
   have a:=zh a;have l:=zh h;clear g h n;go_enter func131,ntmps131;go_wp2_with fail;refine zb (eN a) λo f=>?_
   rw[i];have j:=a.step f;have q:=a.dstep f;go_wp2_with fail;refine zb (vh j l.1 l.2) λL f=>?_
   have m:=zh (j.step f);have r:=q.trans (j.dstep f);obtain⟨M,N,O,P,k⟩:=m.out;have s:=zh k.keep_out;obtain⟨c0,t,u,v,x,y,A,C,D⟩:=gh k.blk;clear k;go_wp2_with fail;refine(tP _ _ m s zo).mono ?_;rintro e Q ⟨rfl,E,F⟩;have H:=r.trans F;clear c0 t u v x y A C D;go_wp2;go_ret;exact⟨rfl,E,H⟩
  ·rw[show d.flush=(d.spent.flushed,0) by unfold DV.flush;rw[NB g,NB h]]
   exact Et a K n i (λI=>by
    by_cases J:0<d.left
    ·exact J
    ·exact absurd ⟨I,zo⟩ h)
def DV.fresh(a:Int):DV:=⟨true,0,false,0,[],a,λ_=>none,λ_=>none,[]⟩
def Aw(a:Int)(w:Qm)(f:1<=a/\a<=4096):
 Qo zP 17 #[a] w (λe w'=> ∃q,e= .returned (.pointer (some ⟨q,0,none⟩))/\Qs (bg w' w.heap.size q 0 (DV.fresh a))/\Qs (Qr w.heap.size w w')):=by
 obtain⟨g,h⟩:=f;have i:= @run_makeMap zP;go_enter func17,ntmps17;go_wp2;go_ret;have c:de (w.alloc (.map #[] 0)) w.heap.size 0 (λ_=>none):=Au w
 have d:de ((w.alloc (.map #[] 0)).alloc (.map #[] 0)) (w.heap.size+1) 0 (λ_=>none):=by
  have:=Au (w.alloc (.map #[] 0))
  rwa [Pl] at this
 refine⟨w.heap.size+2,rfl,⟨.slice none 0 0,.slice none 0 0,w.heap.size,w.heap.size+1,⟨ag zm,vg _,?_,⟨0,by simp[DV.fresh],?_⟩,World.ownsRow_nil _ _ _ _,zo,zo,?_⟩⟩,?_⟩
 ·exact(c.step (PF ze _ c.lt)).step (PF ze _ zu)
 ·exact d.step (PF ze _ d.lt)
 ·exact⟨by unfold DV.fresh aQ;dsimp only;omega,by unfold DV.fresh aQ;dsimp only;omega,by unfold DV.fresh aQ;dsimp only;omega,by simp[DV.fresh]⟩
 ·exact ai (ai ze ze) ze
end
def tQ{w:Qm}{b:Nat}{T:Qp}{a c d e f:Qn}(g:w.heap[b]?=some (.cells #[a,c,d,e,f] T)):w.cell? ⟨b,0,none⟩=some a/\w.cell? ⟨b,1,none⟩=some c/\w.cell? ⟨b,2,none⟩=some d/\w.cell? ⟨b,3,none⟩=some e/\w.cell? ⟨b,4,none⟩=some f:=by
 refine⟨?_,?_,?_,?_,?_⟩<;>(rw[NA w b _ _ _ _ g];rfl)
def fO(l:List UInt8):(aO l).size=l.length:=by unfold aO;show l.toArray.size=_;simp
def Ju:Qt:=⟨#[87,76,79,71]⟩
def Eu(g a c o d:Int):List UInt8:= []++bc [g]++aV 4 [a]++aV 2 [c,o,d]
def qe(g a c o d:Int):List UInt8:=Eu g a c o d++List.replicate (28-(Eu g a c o d).length) 0
def Jv(g a c o d:Int):Qt:=Ju++aO (qe g a c o d)
def Ax(g a c o d:Int):(Eu g a c o d).length=18:=by unfold Eu;simp[aU,aY]
def vj(g a c o d:Int):(qe g a c o d).length=28:=by unfold qe;simp[Ax]
def sj(g a c o d:Int):(Jv g a c o d).size=32:=by unfold Jv;rw[Oh,fO,vj];rfl
structure Lc(w0:Qm)(g nb pl o by_:Int)(p:Nat)(l:List UInt8)(w:Qm):Prop where
 pk:bw w p 0 l
 b:w.heap[w0.heap.size]?=some (.cells #[.int .u64 g,.int .i64 nb,.int .i64 pl,.int .i64 o,.int .i64 by_] 359)
 bel:Qr w0.heap.size w0 w
 lt:w0.heap.size<p
def Lc.step{w0 w w' c:Qm}{g f h o i:Int}{p:Nat}{l j:List UInt8}(a:Lc w0 g f h o i p l w)(d:Qr w.heap.size w w')(k:bi p w' c)(m:bw c p 0 j):Lc w0 g f h o i p j c:=by
 have e:=k.below (a.pk.keep d);exact⟨m,iB e a.lt (ab a.b d),(aI a.bel d a.bel.size).trans (e.mono (Oc a.lt)),a.lt⟩
def Ev(g a c o d:Int)(w:Qm)(I:0<=g/\g<=18446744073709551615)(J:0<=a/\a<4294967296)(K:0<=c/\c<65536)(L:0<=o/\o<65536)(M:0<=d/\d<65536):
 Qo zP 343 #[.agg #[.int .u64 g,a,c,o,d]] w (aK w (.string (Jv g a c o d))):=by
 have s: ∀o,(w.alloc o).heap.size=w.heap.size+1:=λo=>zm
 have q:=zh (show Lc w g a c o d (w.heap.size+1) [] ((w.alloc (.cells #[.int .u64 g,a,c,o,d] 359)).alloc (.cells #[(),z0] 215)) from
  ⟨s (.cells #[.int .u64 g,a,c,o,d] 359)▸ef (w.alloc (.cells #[.int .u64 g,a,c,o,d] 359)),(Oz _ _ _ (by rw[s];omega)).trans (Nu w _),ai ze ze,zo⟩)
 go_enter func343,ntmps343;go_wp2_with fail;refine(fN _ _ [g] [] _ (q.pk.keep ze) (dv q.pk zm rfl zu) zm).mono ?_;rintro e A ⟨rfl,f,h⟩;have m:=q.step ze h f;obtain⟨c0,i,j,k,l⟩:=tQ m.b;go_wp2_with fail;refine(dC _ 4 _ [a] _ _ (m.pk.keep ze) (bH m.pk zm rfl zu zm) (.inl rfl) (by simp[rQ];omega) (by simp[aU])).mono ?_;rintro e B ⟨rfl,f,h⟩;have n:=m.step ze h f;clear c0 i j k l;obtain⟨c0,i,j,k,l⟩:=tQ n.b;go_wp2_with fail;refine(dC _ 2 _ [c,o,d] _ _ (n.pk.keep ze) (bH n.pk zm rfl zu zm) (.inr (.inl rfl)) (by simp[rQ];omega) (by simp[aU,aY])).mono ?_;rintro e C ⟨rfl,f,h⟩;have r:=n.step ze h f;clear c0 i j k l;obtain⟨c0,i,j,k,l⟩:=tQ r.b;go_wp2_with fail;refine(iD _ 28 _ _ r.pk zd (by have:=Ax g a c o d;unfold Eu at this;rw[this];decide)).mono ?_;rintro e D ⟨rfl,f,h⟩;have t:=r.step zr h f;clear c0 i j k l;go_wp2_with fail;refine zb (fh _ (qe g a c o d) _ t.pk) λE x=>?_
 have y:=ai t.bel x;have p:(aO (qe g a c o d)).size=28:=by rw[fO,vj]
 have u:=zh (show Jv g a c o d=Ju++aO (qe g a c o d) from rfl);obtain⟨b,v⟩:=zx (aO (qe g a c o d));rw[<-v] at u p⊢;have F:(⟨#[87,76,79,71]⟩:Qt).size+b.size<=9223372036854775807:=by rw[p];decide
 have H:4+b.size<=9223372036854775807:=by rw[p];decide
 clear v p;go_wp2;go_ret;exact⟨by rw[u];rfl,y⟩
def xN(g c d o:Int)(a:Qt):Qt:=(Jv g c d o a.size++a)++aO (List.replicate (224-a.size) 0)
def BP(g c d o:Int)(a:Qt)(e:a.size<=224):(xN g c d o a).size=256:=by
 unfold xN;rw[Oh,Oh,sj,fO,Pg];omega
def Ew(g a c o:Int)(d:Qt)(f:Int)(w:Qm)(v:f=d.size)(L:0<=g/\g<=18446744073709551615)(M:0<=a/\a<4294967296)(N:0<=c/\c<65536)(O:0<=o/\o<65536)(x:d.size<=224):
 Qo zP 271 #[.agg #[.int .u64 g,a,c,o,f],d] w (aK w (.string (xN g a c o d))):=by
 have j: ∀o,(w.alloc o).heap.size=w.heap.size+1:=λo=>zm
 have k:=zh (show Lc w g a c o f (w.heap.size+1) [] ((w.alloc (.cells #[.int .u64 g,a,c,o,f] 359)).alloc (.cells #[(),z0] 215)) from
  ⟨j (.cells #[.int .u64 g,a,c,o,f] 359)▸ef (w.alloc (.cells #[.int .u64 g,a,c,o,f] 359)),(Oz _ _ _ (by rw[j];omega)).trans (Nu w _),ai ze ze,zo⟩)
 have P:(d.size:Int)<=224:=zo;obtain⟨m,l⟩:=zx (224-d.size:Nat);have Q:(224:Int)-d.size=(m:Int):=zo;have R:m<=224:=zo;have h:=zh (show xN g a c o d=(Jv g a c o f++d)++aO (List.replicate m 0) by unfold xN;rw[v,l]);have S:=zh x;have y:=zh (zo:0<=f/\f<65536);have A:=zh (show(Jv g a c o f).size=32 from sj _ _ _ _ _);clear v l x;go_enter func271,ntmps271;go_wp2_with fail;refine(iD _ m [] _ k.pk zo zm).mono ?_;rintro e T ⟨rfl,n,B⟩;rw[Ol,OM,Nat.sub_zero] at n;have i:=k.step zr B n;go_wp2_with fail;refine zb (fh _ _ _ i.pk) λU p=>?_
 have C:=ai i.bel p;obtain⟨c0,D,E,F,I⟩:=tQ (ab i.b p);go_wp2_with fail;refine zb (Ev g a c o f _ L M N O y) λV J=>?_
 have K:=ai C J;have q:=A.out;have r:(aO (List.replicate m 0)).size=m:=by rw[fO,Pg]
 obtain⟨H,s⟩:=zx (Jv g a c o f);obtain⟨t,u⟩:=zx (aO (List.replicate m 0));rw[<-s] at h q⊢;rw[<-u] at h r⊢;have W:H.size+d.size<=9223372036854775807:=zo;have X:(H++d).size+t.size<=9223372036854775807:=by rw[Oh];omega
 have Y:H.size+d.size+t.size<=9223372036854775807:=zo;clear s u q r c0 D E F I;go_wp2;go_ret;exact⟨by rw[h];rfl,K⟩
def fd(n:Nat):Nat:=if n=0 then 1 else(n-1)/224+1
def vk(n:Nat)(w:Qm)(g:n<=9000000000000000000):Qo zP 270 #[(n:Int)] w (aK w (.int .i64 (fd n))):=by
 have d:(n:Int)<=9000000000000000000:=zo;by_cases a:n=0
 ·subst a
  go_enter func270,ntmps270;go_wp2;go_ret;exact⟨rfl,ND _ _⟩
 ·have e:((n:Int)==0)=false:=by simp;omega
  have f:(1:Int)<=n:=zo;have c:((fd n:Nat):Int)=((n:Int)-1)/224+1:=by unfold fd;rw[NB a];omega
  rw[c];clear a c;go_enter func270,ntmps270;go_wp2;go_ret;exact⟨rfl,ND _ _⟩
def ko{w w':Qm}{B p c:Nat}{d:DV}(a:bg w B p c d)(i:Qr w.heap.size w w'){g:Nat}(o:w.heap.size<=g): ¬cL w' p g:=by
 obtain⟨j,k,l,m,a⟩:=a;intro f;rcases((a.step i).own_iff _).1 f with e|e|e|e
 ·have:=a.lt;omega
 ·have:=a.now.lt;omega
 ·obtain⟨n,_,h⟩:=a.lasts;have:=h.lt;omega
 ·have:=(ar a.waits e).2.1;omega
def qf(d:DV)(keep:List Int):(d.cut keep).writes=d.writes:=by unfold DV.cut;split<;>rfl
def tR(d:DV):d.writes<=d.flush.1.writes/\d.flush.1.writes<=d.writes+1:=by
 unfold DV.flush;split
 ·exact⟨Ov _,by show d.writes<=d.writes+1;omega⟩
 ·split
  ·show d.writes<=(d.cut d.keep).writes/\(d.cut d.keep).writes<=d.writes+1
   rw[qf];omega
  ·show d.writes<=d.writes+1/\d.writes+1<=d.writes+1;omega
def lW(d:DV)(k:Int)(s:Qt):d.writes<=(d.write k s).1.writes/\(d.write k s).1.writes<=d.writes+1:=by
 unfold DV.write;split
 ·exact⟨Ov _,by show d.writes<=d.writes+1;omega⟩
 ·split
  ·exact⟨Ov _,by show d.writes<=d.writes+1;omega⟩
  ·split
   ·exact⟨Ov _,by show d.writes<=d.writes+1;omega⟩
   ·split
    ·show d.writes<=(d.cut d.keep).writes/\(d.cut d.keep).writes<=d.writes+1
     rw[qf];omega
    ·show d.writes<=d.writes+1/\d.writes+1<=d.writes+1;omega
def Ex(w:Qm)(q t:Nat)(o:Obj):Prop:= ¬cL w q t/\w.heap[t]?=some o
def Ex.ret{w w':Qm}{q t:Nat}{o:Obj}(a:Ex w q t o)(c:cS q w w'):Ex w' q t o:=
 ⟨λd=>(c.own _ d).elim a.1 (λe=>by have:=aa a.2;omega),(c.block _ (aa a.2) a.1).trans a.2⟩
def bg.beside{w w':Qm}{B q c t:Nat}{d:DV}{E:Array Qn}{T:Qp}{fr:Nat×Nat}(a:bg w B q c d)(F:Ex w q t (.cells E T fr))(H:T≠3)(I:w.heap.size<=w'.heap.size)(j: ∀k,k≠t->w'.heap[k]?=w.heap[k]?):bg w' B q c d:=by
 obtain⟨l,p⟩:=F;obtain⟨r,u,h,i,a⟩:=a;have g:=a.own_iff;obtain⟨n,v,x⟩:=a.lasts;have hq:=λk (y:cL w q k)=>j k (λe=>l (e▸y))
 refine⟨r,u,h,i,(hq q ((g q).2 (.inl rfl))).trans a.blk,a.keep.step I (λb o s m c' e A=>?_),a.now.step (hq h ((g h).2 (.inr (.inl rfl)))),⟨n,v,x.step (hq i ((g i).2 (.inr (.inr (.inl rfl)))))⟩,
  aZ a.waits (λk C=>hq k ((g k).2 (.inr (.inr (.inr C))))),a.ne,a.ge,a.ok⟩
 obtain⟨J,K,f⟩:=a.keep.2 b o s m c' e A;refine j b (λD=>?_);rw[D,p] at f;injection f with f;injection f with _ f
 exact H f
def qg{w:Qm}{q t k i:Nat}{y:Qn}(hq:q≠t):cL (w.setCell ⟨t,i,none⟩ y) q k↔cL w q k:=by
 have a: ∀j,(w.setCell ⟨t,i,none⟩ y).cell? ⟨q,j,none⟩=w.cell? ⟨q,j,none⟩:=by
  intro j;apply World.cell?_of_block;show _=w.heap[q]?;rw[af _ hq]
 unfold cL;rw[a,a,a]
def Ex.ne{w:Qm}{q t:Nat}{o:Obj}(a:Ex w q t o):q≠t:=λe=>a.1 (by rw[<-e];exact .inl rfl)
end Go.Proofs.YtdflhgceeloijaaGreatDoor
