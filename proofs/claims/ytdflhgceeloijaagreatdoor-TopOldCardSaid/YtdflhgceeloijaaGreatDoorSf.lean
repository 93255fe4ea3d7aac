/-
  The contracts of the library that the proof uses, as the kit lays them at this program.
-/
import Derived.Shelf.Strings.Builder1
import Derived.Shelf.Strings.Builder2
import Derived.Shelf.Strings.OnBuilder
import Derived.Shelf.Strings.Trim
import Derived.Shelf.Small.Utf8
import Derived.Shelf.Small.Bits
import Derived.Shelf.Small.Strs
import Derived.Shelf.Small.Wraps
import Derived.Shelf.Strings.BuilderF
import Derived.Shelf.Strings.BuilderK
import Derived.Shelf.Utf8.RuneCount
import Derived.Shelf.Strings.Builder2Cap
import Derived.Shelf.Strconv.Itoa0
import Derived.Shelf.Strconv.Itoa1
import Derived.Shelf.LaysM
import Derived.Shelf.Strconv.Itoa2
import Derived.Shelf.Strconv.Itoa3
import Derived.Shelf.Strconv.Clone
import Derived.Shelf.Strings.Search1
import Derived.Shelf.Strings.Search2
import Derived.Shelf.Strings.Search3
import Derived.Shelf.Strings.Count
import Derived.Shelf.Strings.Shaped
import Derived.Shelf.Sort.Plain
import Derived.Shelf.Strings.Prefix
import Derived.Shelf.Strings.Split
import Derived.Shelf.Strings.Replace
import Derived.Shelf.Strings.SplitShaped
import Derived.Shelf.Unicode.Decode
import Derived.Shelf.Strings.Runes
import Derived.Shelf.Strings.RuneCount
import Derived.Shelf.Strings.IndexAny
import Derived.Shelf.Strings.AsciiSet
import Derived.Shelf.Strings.IndexAnyAll
import Derived.Shelf.Strings.Explode
import Derived.Shelf.Bits.Mul64
import Derived.Shelf.Strings.Repeat
import Derived.Shelf.Unicode.DecodeSlow
import Derived.Shelf.Unicode.DecodeAny
import Derived.Shelf.Unicode.DecodeLast
import Derived.Shelf.Strings.BuilderCap
import Derived.Ground.Names2Prog
import Derived.Shelf.Slices.Clone
import Derived.Shelf.Slices.SearchI
import Derived.Shelf.Slices.In.SortNone
import Derived.Test.YtdflhgceeloijaaGreatDoorProg
import Derived.Shelf.SlIterI.Nil
import Derived.Ground.GgzProg
namespace Go.Proofs
open Go.Shelf Tryz
theorem Tryz.zt {α : Type _} {x : Option α} {a b : α} (h : x = some a) (e : a = b := by kernel_rfl) : x = some b := h.trans (congrArg some e)
theorem Tryz.zk {p : Prop} (h : p := by kernel_rfl) : p := h
def Tryz.lays169_ren : Go.Shelf.Ren := ⟨fun | 169 => 58 | n => n, fun | 70 => 133 | 9 => 9 | 0 => 0 | 72 => 136 | 37 => 134 | 127 => 199 | 3 => 3 | 5 => 5 | n => n, fun | n => n⟩
theorem Tryz.lays169 : Lays.n169 prog lays169_ren := {
 mixed:=zk
 f169:=zt func58
 t0:=underlying0
 a0:=isAgg0
 z0:=sizeOf0
 v0:=zeroValue0
 t3:=underlying3
 a3:=isAgg3
 z3:=sizeOf3
 v3:=zeroValue3
 t9:=underlying9
 a9:=isAgg9
 z9:=sizeOf9
 v9:=zeroValue9
 t37:=underlying134
 a37:=isAgg134
 z37:=sizeOf134
 v37:=zeroValue134
 t70:=underlying133
 a70:=isAgg133
 z70:=sizeOf133
 v70:=zeroValue133
 t72:=underlying136
 a72:=isAgg136
 z72:=sizeOf136
 v72:=zeroValue136
 t127:=underlying199
 a127:=isAgg199
 z127:=sizeOf199
 v127:=zeroValue199 }
theorem Tryz.Builder_Extra_169 : Builder.Extra prog lays169_ren := {
 sizeBuilder:=zk
 liesBuilder:=zk
 t5:=underlying5
 a5:=isAgg5
 z5:=sizeOf5
 v5:=zeroValue5
 infoByte:=zk
 cellsByte:=zk
 sizeByte:=zk
 neB5:=by decide }
open Go.RowKit in
theorem Tryz.Builder_String_any (B b : Nat) (l : List UInt8) (w : World) (h : Lib.IsBuilder 136 5 B b (Lib.byteCells l) w) (hBw : B ≤ w.heap.size) :
    Calls prog 58 #[.pointer (some ⟨b, 0, none⟩)] w fun e w' => e = .returned (.string ⟨l.toArray⟩) ∧ Below B w w' := Any.Builder_String_any lays169 Builder_Extra_169 B b l w h hBw
def Tryz.lays156_ren : Go.Shelf.Ren := ⟨fun | 156 => 51 | 165 => 98 | 166 => 56 | 169 => 58 | 240 => 103 | 241 => 158 | 276 => 164 | 277 => 231 | n => n, fun | 31 => 121 | 9 => 9 | 3 => 3 | 4 => 4 | 0 => 0 | 20 => 20 | 72 => 136 | 76 => 143 | 70 => 133 | 37 => 134 | 75 => 142 | 127 => 199 | 164 => 244 | 5 => 5 | 80 => 146 | n => n, fun | n => n⟩
theorem Tryz.lays156 : Lays.n156 prog lays156_ren := {
 mixed:=zk
 f156:=zt func51
 f165:=zt func98
 f166:=zt func56
 f169:=zt func58
 f240:=zt func103
 f241:=zt func158
 f276:=zt func164
 f277:=zt func231
 t0:=underlying0
 a0:=isAgg0
 z0:=sizeOf0
 v0:=zeroValue0
 t3:=underlying3
 a3:=isAgg3
 z3:=sizeOf3
 v3:=zeroValue3
 t4:=underlying4
 a4:=isAgg4
 z4:=sizeOf4
 v4:=zeroValue4
 t9:=underlying9
 a9:=isAgg9
 z9:=sizeOf9
 v9:=zeroValue9
 t20:=underlying20
 a20:=isAgg20
 z20:=sizeOf20
 v20:=zeroValue20
 t31:=underlying121
 a31:=isAgg121
 z31:=sizeOf121
 v31:=zeroValue121
 t37:=underlying134
 a37:=isAgg134
 z37:=sizeOf134
 v37:=zeroValue134
 t70:=underlying133
 a70:=isAgg133
 z70:=sizeOf133
 v70:=zeroValue133
 t72:=underlying136
 a72:=isAgg136
 z72:=sizeOf136
 v72:=zeroValue136
 t75:=underlying142
 a75:=isAgg142
 z75:=sizeOf142
 v75:=zeroValue142
 t76:=underlying143
 a76:=isAgg143
 z76:=sizeOf143
 v76:=zeroValue143
 t127:=underlying199
 a127:=isAgg199
 z127:=sizeOf199
 v127:=zeroValue199
 t164:=underlying244
 a164:=isAgg244
 z164:=sizeOf244
 v164:=zeroValue244 }
theorem Tryz.Builder_Extra_156 : Builder.Extra prog lays156_ren := {
 sizeBuilder:=zk
 liesBuilder:=zk
 t5:=underlying5
 a5:=isAgg5
 z5:=sizeOf5
 v5:=zeroValue5
 infoByte:=zk
 cellsByte:=zk
 sizeByte:=zk
 neB5:=by decide }
open Go.RowKit in
theorem Tryz.strings_Join (bk o c : Nat) (xs : List ByteArray) (sep : ByteArray) (w : World) (hcells : ∀ (j : Nat) x, xs[j]? = some x → w.cell? ⟨bk, o + j, none⟩ = some (.string x)) (hbk : bk < w.heap.size) (hN : xs.length ≤ 140737488355328) (hcap : xs.length ≤ c) (hlen : (Lib.join (xs.map (·.data.toList)) sep.data.toList).length ≤ 140737488355328) :
    Calls prog 51 #[.slice (some ⟨bk, o, none⟩) xs.length c, .string sep] w fun e w' => e = .returned (.string ⟨(Lib.join (xs.map (·.data.toList)) sep.data.toList).toArray⟩) ∧ Below w.heap.size w w' := Any.strings_Join lays156 Builder_Extra_156 bk o c xs sep w hcells hbk hN hcap hlen
def Tryz.lays160_ren : Go.Shelf.Ren := ⟨fun | 160 => 423 | 232 => 439 | 231 => 438 | 227 => 296 | 234 => 441 | 233 => 440 | 236 => 443 | 235 => 442 | 228 => 297 | 271 => 448 | 151 => 447 | 197 => 225 | 120 => 451 | 152 => 294 | 260 => 288 | 137 => 353 | 119 => 354 | 224 => 291 | 225 => 290 | 217 => 289 | 266 => 350 | n => n, fun | 9 => 9 | 4 => 4 | 3 => 3 | 5 => 5 | 117 => 377 | 116 => 376 | 0 => 0 | 124 => 445 | 21 => 21 | 105 => 299 | 46 => 235 | 119 => 439 | 139 => 442 | 138 => 441 | n => n, fun | 3 => 1 | 4 => 2 | n => n⟩
theorem Tryz.lays160 : Lays.n160 prog lays160_ren := {
 mixed:=zk
 f119:=zt func354
 f120:=zt func451
 f137:=zt func353
 f151:=zt func447
 f152:=zt func294
 f160:=zt func423
 f197:=zt func225
 f217:=zt func289
 f224:=zt func291
 f225:=zt func290
 f227:=zt func296
 f228:=zt func297
 f231:=zt func438
 f232:=zt func439
 f233:=zt func440
 f234:=zt func441
 f235:=zt func442
 f236:=zt func443
 f260:=zt func288
 f266:=zt func350
 f271:=zt func448
 t0:=underlying0
 a0:=isAgg0
 z0:=sizeOf0
 v0:=zeroValue0
 t3:=underlying3
 a3:=isAgg3
 z3:=sizeOf3
 v3:=zeroValue3
 t4:=underlying4
 a4:=isAgg4
 z4:=sizeOf4
 v4:=zeroValue4
 t5:=underlying5
 a5:=isAgg5
 z5:=sizeOf5
 v5:=zeroValue5
 t9:=underlying9
 a9:=isAgg9
 z9:=sizeOf9
 v9:=zeroValue9
 t21:=underlying21
 a21:=isAgg21
 z21:=sizeOf21
 v21:=zeroValue21
 t46:=underlying235
 a46:=isAgg235
 z46:=sizeOf235
 v46:=zeroValue235
 t105:=underlying299
 a105:=isAgg299
 z105:=sizeOf299
 v105:=zeroValue299
 t116:=underlying376
 a116:=isAgg376
 z116:=sizeOf376
 t117:=underlying377
 a117:=isAgg377
 z117:=sizeOf377
 v117:=zeroValue377
 t119:=underlying439
 a119:=isAgg439
 z119:=sizeOf439
 t124:=underlying445
 a124:=isAgg445
 z124:=sizeOf445
 v124:=zeroValue445
 t138:=underlying441
 a138:=isAgg441
 z138:=sizeOf441
 v138:=zeroValue441
 t139:=underlying442
 a139:=isAgg442
 z139:=sizeOf442
 v139:=zeroValue442
 g3:=zk
 g4:=by kernel_rfl }
open Go.RowKit in
theorem Tryz.strings_Trim_one (s : ByteArray) (c : UInt8) (hc : c.toNat < 128) (w : World) (hs : s.size ≤ 9223372036854775807) :
    Calls prog 423 #[.string s, .string ⟨#[c]⟩] w fun e w' => e = .returned (.string ⟨(Lib.trimB s.data.toList c).toArray⟩) ∧ (w' = w ∨ w' = w.drew) := Any.strings_Trim_one lays160 s c hc w hs
def Tryz.lays125_ren : Go.Shelf.Ren := ⟨fun | 125 => 147 | 128 => 220 | 129 => 221 | n => n, fun | 46 => 235 | 3 => 3 | 51 => 296 | 53 => 61 | 4 => 4 | 5 => 5 | 9 => 9 | n => n, fun | n => n⟩
theorem Tryz.lays125 : Lays.n125 prog lays125_ren := {
 mixed:=zk
 f125:=zt func147
 f128:=zt func220
 f129:=zt func221
 t3:=underlying3
 a3:=isAgg3
 z3:=sizeOf3
 v3:=zeroValue3
 t4:=underlying4
 a4:=isAgg4
 z4:=sizeOf4
 v4:=zeroValue4
 t5:=underlying5
 a5:=isAgg5
 z5:=sizeOf5
 v5:=zeroValue5
 t9:=underlying9
 a9:=isAgg9
 z9:=sizeOf9
 v9:=zeroValue9
 t46:=underlying235
 a46:=isAgg235
 z46:=sizeOf235
 v46:=zeroValue235
 t51:=underlying296
 a51:=isAgg296
 z51:=sizeOf296
 v51:=zeroValue296
 t53:=underlying61
 a53:=isAgg61
 z53:=sizeOf61
 v53:=zeroValue61 }
theorem Tryz.bits_Len (x : Int) (w : World) (h0 : 0 ≤ x) (h1 : x ≤ 18446744073709551615) :
    Calls prog 147 #[.int .u64 x] w fun e w' => e = .returned (.int .i64 (Lib.bitLen x.toNat)) ∧ w' = w := Any.bits_Len lays125 x w h0 h1
def Tryz.lays103_ren : Go.Shelf.Ren := ⟨fun | 103 => 157 | 210 => 230 | 206 => 228 | n => n, fun | 9 => 9 | 4 => 4 | 24 => 139 | 3 => 3 | n => n, fun | n => n⟩
theorem Tryz.lays103 : Lays.n103 prog lays103_ren := {
 mixed:=zk
 f103:=zt func157
 f206:=zt func228
 f210:=zt func230
 t3:=underlying3
 a3:=isAgg3
 z3:=sizeOf3
 v3:=zeroValue3
 t4:=underlying4
 a4:=isAgg4
 z4:=sizeOf4
 v4:=zeroValue4
 t9:=underlying9
 a9:=isAgg9
 z9:=sizeOf9
 v9:=zeroValue9
 t24:=underlying139
 a24:=isAgg139
 z24:=sizeOf139
 v24:=zeroValue139 }
open Go.RowKit in
theorem Tryz.strings_CutPrefix (s p : ByteArray) (w : World) :
    Calls prog 157 #[.string s, .string p] w fun e w' => e = .returned (.tuple #[.string ⟨(Lib.trimPrefix s.data.toList p.data.toList).toArray⟩, .bool (Lib.hasPrefix s.data.toList p.data.toList)]) ∧ w' = w := Any.strings_CutPrefix lays103 s p w
def Tryz.lays104_ren : Go.Shelf.Ren := ⟨fun | 104 => 234 | 211 => 293 | 207 => 352 | n => n, fun | 9 => 9 | 4 => 4 | 24 => 139 | 3 => 3 | n => n, fun | n => n⟩
theorem Tryz.lays104 : Lays.n104 prog lays104_ren := {
 mixed:=zk
 f104:=zt func234
 f207:=zt func352
 f211:=zt func293
 t3:=underlying3
 a3:=isAgg3
 z3:=sizeOf3
 v3:=zeroValue3
 t4:=underlying4
 a4:=isAgg4
 z4:=sizeOf4
 v4:=zeroValue4
 t9:=underlying9
 a9:=isAgg9
 z9:=sizeOf9
 v9:=zeroValue9
 t24:=underlying139
 a24:=isAgg139
 z24:=sizeOf139
 v24:=zeroValue139 }
open Go.RowKit in
theorem Tryz.strings_CutSuffix (s p : ByteArray) (w : World) (hs : s.size ≤ 9223372036854775807) :
    Calls prog 234 #[.string s, .string p] w fun e w' => e = .returned (.tuple #[.string ⟨(Lib.trimSuffix s.data.toList p.data.toList).toArray⟩, .bool (Lib.hasSuffix s.data.toList p.data.toList)]) ∧ w' = w := Any.strings_CutSuffix lays104 s p w hs
def Tryz.laysM171_ren : Go.Shelf.Ren := ⟨fun | 171 => 163 | 243 => 236 | 246 => 298 | 283 => 355 | 284 => 356 | 285 => 357 | 286 => 358 | 129 => 221 | 317 => 407 | 318 => 408 | 319 => 409 | 320 => 410 | 337 => 432 | 338 => 433 | n => n, fun | 3 => 3 | 9 => 9 | 2 => 2 | 4 => 4 | 171 => 446 | 0 => 0 | 53 => 61 | 37 => 134 | 5 => 5 | 173 => 448 | 212 => 485 | 51 => 296 | 20 => 20 | 213 => 486 | 46 => 235 | 232 => 513 | 233 => 514 | n => n, fun | 17 => 3 | 18 => 4 | 19 => 5 | n => n⟩
theorem Tryz.laysM171 : LaysM.n171 prog laysM171_ren := {
 mixed:=zk
 f129:=zt func221
 f171:=zt func163
 f243:=zt func236
 f246:=zt func298
 f283:=zt func355
 f284:=zt func356
 f285:=zt func357
 f286:=zt func358
 f317:=zt func407
 f318:=zt func408
 f319:=zt func409
 f320:=zt func410
 f337:=zt func432
 f338:=zt func433
 t0:=underlying0
 a0:=isAgg0
 z0:=sizeOf0
 v0:=zeroValue0
 t2:=underlying2
 a2:=isAgg2
 z2:=sizeOf2
 v2:=zeroValue2
 t3:=underlying3
 a3:=isAgg3
 z3:=sizeOf3
 v3:=zeroValue3
 t4:=underlying4
 a4:=isAgg4
 z4:=sizeOf4
 v4:=zeroValue4
 t5:=underlying5
 a5:=isAgg5
 z5:=sizeOf5
 v5:=zeroValue5
 t9:=underlying9
 a9:=isAgg9
 z9:=sizeOf9
 v9:=zeroValue9
 t20:=underlying20
 a20:=isAgg20
 z20:=sizeOf20
 v20:=zeroValue20
 t37:=underlying134
 a37:=isAgg134
 z37:=sizeOf134
 v37:=zeroValue134
 t46:=underlying235
 a46:=isAgg235
 z46:=sizeOf235
 v46:=zeroValue235
 t51:=underlying296
 a51:=isAgg296
 z51:=sizeOf296
 v51:=zeroValue296
 t53:=underlying61
 a53:=isAgg61
 z53:=sizeOf61
 v53:=zeroValue61
 t171:=underlying446
 a171:=isAgg446
 z171:=sizeOf446
 v171:=zeroValue446
 t173:=underlying448
 a173:=isAgg448
 z173:=sizeOf448
 v173:=zeroValue448
 t212:=underlying485
 a212:=isAgg485
 z212:=sizeOf485
 v212:=zeroValue485
 t213:=underlying486
 a213:=isAgg486
 z213:=sizeOf486
 t232:=underlying513
 a232:=isAgg513
 z232:=sizeOf513
 v232:=zeroValue513
 t233:=underlying514
 a233:=isAgg514
 z233:=sizeOf514
 v233:=zeroValue514
 g17:=zk
 g18:=zk
 g19:=zk
 i0:=zk
 i2:=zk
 i3:=zk
 i4:=zk
 i5:=zk
 i9:=zk
 i20:=zk
 i37:=zk
 i46:=zk
 i51:=zk
 i53:=zk
 i171:=zk
 i173:=zk
 i212:=zk
 i232:=zk
 i233:=zk
 m17:=zk
 m18:=zk
 m19:=by kernel_rfl }
open Go.RowKit Go.Sort Go.Lib in
theorem Tryz.strconv_Itoa (n : Int) (h0 : -9223372036854775808 ≤ n) (h1 : n ≤ 9223372036854775807) (w : World) (htab : Lib.TabIs prog w "internal/strconv.uint64pow10" .u64 Lib.pow10Tab) :
    Calls prog 163 #[.int .i64 n] w fun e w' => e = .returned (.string ⟨(Lib.itoa n).toArray⟩) ∧ ∃ k os, w' = grow (w.drewN k) os := Any.strconv_Itoa laysM171 n h0 h1 w htab
def Tryz.laysM316_ren : Go.Shelf.Ren := ⟨fun | 316 => 232 | n => n, fun | 9 => 9 | 3 => 3 | 4 => 4 | 37 => 134 | 0 => 0 | 127 => 199 | 5 => 5 | n => n, fun | n => n⟩
theorem Tryz.laysM316 : LaysM.n316 prog laysM316_ren := {
 mixed:=zk
 f316:=zt func232
 t0:=underlying0
 a0:=isAgg0
 z0:=sizeOf0
 v0:=zeroValue0
 t3:=underlying3
 a3:=isAgg3
 z3:=sizeOf3
 v3:=zeroValue3
 t4:=underlying4
 a4:=isAgg4
 z4:=sizeOf4
 v4:=zeroValue4
 t9:=underlying9
 a9:=isAgg9
 z9:=sizeOf9
 v9:=zeroValue9
 t37:=underlying134
 a37:=isAgg134
 z37:=sizeOf134
 v37:=zeroValue134
 t127:=underlying199
 a127:=isAgg199
 z127:=sizeOf199
 v127:=zeroValue199
 t5:=underlying5
 a5:=isAgg5
 z5:=sizeOf5
 v5:=zeroValue5
 i0:=zk
 i3:=zk
 i4:=zk
 i5:=zk
 i9:=zk
 i37:=zk
 i127:=by kernel_rfl }
open Go.RowKit in
theorem Tryz.stringslite_Clone (s : ByteArray) (w : World) (hlim : s.size ≤ 281474976710656) :
    Calls prog 232 #[.string s] w fun e w' => e = .returned (.string s) ∧ Below w.heap.size w w' := Any.stringslite_Clone laysM316 s w hlim
def Tryz.lays138_ren : Go.Shelf.Ren := ⟨fun | 138 => 152 | 195 => 224 | 218 => 226 | 143 => 153 | 219 => 227 | 217 => 289 | 225 => 290 | 224 => 291 | 267 => 292 | 266 => 350 | 314 => 351 | n => n, fun | 9 => 9 | 3 => 3 | 4 => 4 | 5 => 5 | 0 => 0 | 46 => 235 | 146 => 420 | 51 => 296 | n => n, fun | 1 => 0 | n => n⟩
theorem Tryz.lays138 : Lays.n138 prog lays138_ren := {
 mixed:=zk
 f138:=zt func152
 f143:=zt func153
 f195:=zt func224
 f217:=zt func289
 f218:=zt func226
 f219:=zt func227
 f224:=zt func291
 f225:=zt func290
 f266:=zt func350
 f267:=zt func292
 f314:=zt func351
 t0:=underlying0
 a0:=isAgg0
 z0:=sizeOf0
 v0:=zeroValue0
 t3:=underlying3
 a3:=isAgg3
 z3:=sizeOf3
 v3:=zeroValue3
 t4:=underlying4
 a4:=isAgg4
 z4:=sizeOf4
 v4:=zeroValue4
 t5:=underlying5
 a5:=isAgg5
 z5:=sizeOf5
 v5:=zeroValue5
 t9:=underlying9
 a9:=isAgg9
 z9:=sizeOf9
 v9:=zeroValue9
 t46:=underlying235
 a46:=isAgg235
 z46:=sizeOf235
 v46:=zeroValue235
 t51:=underlying296
 a51:=isAgg296
 z51:=sizeOf296
 v51:=zeroValue296
 t146:=underlying420
 a146:=isAgg420
 z146:=sizeOf420
 v146:=zeroValue420
 g1:=by kernel_rfl }
open Go.RowKit Go.Lib in
theorem Tryz.strings_Count_one (s : ByteArray) (c : UInt8) (w : World) :
    Calls prog 152 #[.string s, .string ⟨#[c]⟩] w fun e w' => e = .returned (.int .i64 (Lib.countByte s.data.toList c)) ∧ w' = w := Any.strings_Count_one lays138 s c w
def Tryz.lays189_ren : Go.Shelf.Ren := ⟨fun | 189 => 445 | 125 => 147 | 257 => 450 | 128 => 220 | 129 => 221 | 294 => 452 | 295 => 453 | 296 => 454 | 297 => 455 | 298 => 456 | 299 => 457 | 216 => 458 | 300 => 459 | 301 => 460 | 328 => 461 | 329 => 284 | 330 => 285 | 331 => 462 | 332 => 463 | 215 => 223 | 343 => 464 | n => n, fun | 28 => 44 | 3 => 3 | 46 => 235 | 0 => 0 | 51 => 296 | 53 => 61 | 4 => 4 | 183 => 290 | 182 => 289 | 131 => 57 | 5 => 5 | 9 => 9 | 218 => 367 | 222 => 371 | 228 => 436 | 229 => 437 | n => n, fun | n => n⟩
theorem Tryz.lays189 : Lays.n189 prog lays189_ren := {
 mixed:=zk
 f125:=zt func147
 f128:=zt func220
 f129:=zt func221
 f189:=zt func445
 f215:=zt func223
 f216:=zt func458
 f257:=zt func450
 f294:=zt func452
 f295:=zt func453
 f296:=zt func454
 f297:=zt func455
 f298:=zt func456
 f299:=zt func457
 f300:=zt func459
 f301:=zt func460
 f328:=zt func461
 f329:=zt func284
 f330:=zt func285
 f331:=zt func462
 f332:=zt func463
 f343:=zt func464
 t0:=underlying0
 a0:=isAgg0
 z0:=sizeOf0
 v0:=zeroValue0
 t3:=underlying3
 a3:=isAgg3
 z3:=sizeOf3
 v3:=zeroValue3
 t4:=underlying4
 a4:=isAgg4
 z4:=sizeOf4
 v4:=zeroValue4
 t5:=underlying5
 a5:=isAgg5
 z5:=sizeOf5
 v5:=zeroValue5
 t9:=underlying9
 a9:=isAgg9
 z9:=sizeOf9
 v9:=zeroValue9
 t28:=underlying44
 a28:=isAgg44
 z28:=sizeOf44
 v28:=zeroValue44
 t46:=underlying235
 a46:=isAgg235
 z46:=sizeOf235
 v46:=zeroValue235
 t51:=underlying296
 a51:=isAgg296
 z51:=sizeOf296
 v51:=zeroValue296
 t53:=underlying61
 a53:=isAgg61
 z53:=sizeOf61
 v53:=zeroValue61
 t131:=underlying57
 a131:=isAgg57
 z131:=sizeOf57
 v131:=zeroValue57
 t182:=underlying289
 a182:=isAgg289
 z182:=sizeOf289
 v182:=zeroValue289
 t183:=underlying290
 a183:=isAgg290
 z183:=sizeOf290
 v183:=zeroValue290
 t218:=underlying367
 a218:=isAgg367
 z218:=sizeOf367
 v218:=zeroValue367
 t222:=underlying371
 a222:=isAgg371
 z222:=sizeOf371
 v222:=zeroValue371
 t228:=underlying436
 a228:=isAgg436
 z228:=sizeOf436
 v228:=zeroValue436
 t229:=underlying437
 a229:=isAgg437
 z229:=sizeOf437
 v229:=zeroValue437 }
def Tryz.lays99_ren : Go.Shelf.Ren := ⟨fun | 99 => 154 | 206 => 228 | n => n, fun | 9 => 9 | 4 => 4 | 3 => 3 | n => n, fun | n => n⟩
theorem Tryz.lays99 : Lays.n99 prog lays99_ren := {
 mixed:=zk
 f99:=zt func154
 f206:=zt func228
 t3:=underlying3
 a3:=isAgg3
 z3:=sizeOf3
 v3:=zeroValue3
 t4:=underlying4
 a4:=isAgg4
 z4:=sizeOf4
 v4:=zeroValue4
 t9:=underlying9
 a9:=isAgg9
 z9:=sizeOf9
 v9:=zeroValue9 }
open Go.RowKit Go.Lib in
theorem Tryz.strings_HasPrefix (s p : ByteArray) (w : World) :
    Calls prog 154 #[.string s, .string p] w fun e w' => e = .returned (.bool (Lib.hasPrefix s.data.toList p.data.toList)) ∧ w' = w := Any.strings_HasPrefix lays99 s p w
def Tryz.lays146_ren : Go.Shelf.Ren := ⟨fun | 146 => 48 | 221 => 94 | 268 => 151 | 138 => 152 | 143 => 153 | 195 => 224 | 197 => 225 | 218 => 226 | 219 => 227 | 260 => 288 | 217 => 289 | 225 => 290 | 224 => 291 | 267 => 292 | 266 => 350 | 314 => 351 | n => n, fun | 9 => 9 | 31 => 121 | 3 => 3 | 4 => 4 | 0 => 0 | 105 => 299 | 21 => 21 | 5 => 5 | 46 => 235 | 119 => 439 | 139 => 442 | 138 => 441 | 146 => 420 | 51 => 296 | n => n, fun | 1 => 0 | 3 => 1 | 4 => 2 | n => n⟩
theorem Tryz.lays146 : Lays.n146 prog lays146_ren := {
 mixed:=zk
 f138:=zt func152
 f143:=zt func153
 f146:=zt func48
 f195:=zt func224
 f197:=zt func225
 f217:=zt func289
 f218:=zt func226
 f219:=zt func227
 f221:=zt func94
 f224:=zt func291
 f225:=zt func290
 f260:=zt func288
 f266:=zt func350
 f267:=zt func292
 f268:=zt func151
 f314:=zt func351
 t0:=underlying0
 a0:=isAgg0
 z0:=sizeOf0
 v0:=zeroValue0
 t3:=underlying3
 a3:=isAgg3
 z3:=sizeOf3
 v3:=zeroValue3
 t4:=underlying4
 a4:=isAgg4
 z4:=sizeOf4
 v4:=zeroValue4
 t5:=underlying5
 a5:=isAgg5
 z5:=sizeOf5
 v5:=zeroValue5
 t9:=underlying9
 a9:=isAgg9
 z9:=sizeOf9
 v9:=zeroValue9
 t21:=underlying21
 a21:=isAgg21
 z21:=sizeOf21
 v21:=zeroValue21
 t31:=underlying121
 a31:=isAgg121
 z31:=sizeOf121
 v31:=zeroValue121
 t46:=underlying235
 a46:=isAgg235
 z46:=sizeOf235
 v46:=zeroValue235
 t51:=underlying296
 a51:=isAgg296
 z51:=sizeOf296
 v51:=zeroValue296
 t105:=underlying299
 a105:=isAgg299
 z105:=sizeOf299
 v105:=zeroValue299
 t119:=underlying439
 a119:=isAgg439
 z119:=sizeOf439
 t138:=underlying441
 a138:=isAgg441
 z138:=sizeOf441
 v138:=zeroValue441
 t139:=underlying442
 a139:=isAgg442
 z139:=sizeOf442
 v139:=zeroValue442
 t146:=underlying420
 a146:=isAgg420
 z146:=sizeOf420
 v146:=zeroValue420
 g1:=zk
 g3:=zk
 g4:=by kernel_rfl }
open Go.RowKit Go.Lib in
theorem Tryz.strings_Split (s sep : ByteArray) (m : Int) (w : World) (hs : s.size < 4294967281) (hm : w.cell? ⟨0, 0, none⟩ = some (.int .i64 m)) (h1 : 1 ≤ sep.size) :
    Calls prog 48 #[.string s, .string sep] w fun e w' =>
      e = .returned (.slice (some ⟨w.heap.size, 0, none⟩) (Lib.countB s sep + 1) (Lib.countB s sep + 1)) ∧ w' = w.alloc (.cells ((Lib.splitB sep 0 (Lib.countB s sep) s).map Value.string).toArray 9) := Any.strings_Split lays146 zk s sep m w hs hm h1
def Tryz.lays155_ren : Go.Shelf.Ren := ⟨fun | 155 => 100 | 154 => 161 | 138 => 152 | 165 => 98 | 143 => 153 | 166 => 56 | 197 => 225 | 169 => 58 | 195 => 224 | 218 => 226 | 240 => 103 | 241 => 158 | 219 => 227 | 260 => 288 | 276 => 164 | 277 => 231 | 217 => 289 | 225 => 290 | 224 => 291 | 267 => 292 | 266 => 350 | 314 => 351 | n => n, fun | 9 => 9 | 3 => 3 | 4 => 4 | 72 => 136 | 0 => 0 | 76 => 143 | 105 => 299 | 21 => 21 | 5 => 5 | 70 => 133 | 20 => 20 | 37 => 134 | 75 => 142 | 127 => 199 | 164 => 244 | 46 => 235 | 119 => 439 | 139 => 442 | 138 => 441 | 146 => 420 | 51 => 296 | 80 => 146 | n => n, fun | 1 => 0 | 3 => 1 | 4 => 2 | n => n⟩
theorem Tryz.lays155 : Lays.n155 prog lays155_ren := {
 mixed:=zk
 f138:=zt func152
 f143:=zt func153
 f154:=zt func161
 f155:=zt func100
 f165:=zt func98
 f166:=zt func56
 f169:=zt func58
 f195:=zt func224
 f197:=zt func225
 f217:=zt func289
 f218:=zt func226
 f219:=zt func227
 f224:=zt func291
 f225:=zt func290
 f240:=zt func103
 f241:=zt func158
 f260:=zt func288
 f266:=zt func350
 f267:=zt func292
 f276:=zt func164
 f277:=zt func231
 f314:=zt func351
 t0:=underlying0
 a0:=isAgg0
 z0:=sizeOf0
 v0:=zeroValue0
 t3:=underlying3
 a3:=isAgg3
 z3:=sizeOf3
 v3:=zeroValue3
 t4:=underlying4
 a4:=isAgg4
 z4:=sizeOf4
 v4:=zeroValue4
 t5:=underlying5
 a5:=isAgg5
 z5:=sizeOf5
 v5:=zeroValue5
 t9:=underlying9
 a9:=isAgg9
 z9:=sizeOf9
 v9:=zeroValue9
 t20:=underlying20
 a20:=isAgg20
 z20:=sizeOf20
 v20:=zeroValue20
 t21:=underlying21
 a21:=isAgg21
 z21:=sizeOf21
 v21:=zeroValue21
 t37:=underlying134
 a37:=isAgg134
 z37:=sizeOf134
 v37:=zeroValue134
 t46:=underlying235
 a46:=isAgg235
 z46:=sizeOf235
 v46:=zeroValue235
 t51:=underlying296
 a51:=isAgg296
 z51:=sizeOf296
 v51:=zeroValue296
 t70:=underlying133
 a70:=isAgg133
 z70:=sizeOf133
 v70:=zeroValue133
 t72:=underlying136
 a72:=isAgg136
 z72:=sizeOf136
 v72:=zeroValue136
 t75:=underlying142
 a75:=isAgg142
 z75:=sizeOf142
 v75:=zeroValue142
 t76:=underlying143
 a76:=isAgg143
 z76:=sizeOf143
 v76:=zeroValue143
 t105:=underlying299
 a105:=isAgg299
 z105:=sizeOf299
 v105:=zeroValue299
 t119:=underlying439
 a119:=isAgg439
 z119:=sizeOf439
 t127:=underlying199
 a127:=isAgg199
 z127:=sizeOf199
 v127:=zeroValue199
 t138:=underlying441
 a138:=isAgg441
 z138:=sizeOf441
 v138:=zeroValue441
 t139:=underlying442
 a139:=isAgg442
 z139:=sizeOf442
 v139:=zeroValue442
 t146:=underlying420
 a146:=isAgg420
 z146:=sizeOf420
 v146:=zeroValue420
 t164:=underlying244
 a164:=isAgg244
 z164:=sizeOf244
 v164:=zeroValue244
 g1:=zk
 g3:=zk
 g4:=by kernel_rfl }
theorem Tryz.Builder_Extra_155 : Builder.Extra prog lays155_ren := {
 sizeBuilder:=zk
 liesBuilder:=zk
 t5:=underlying5
 a5:=isAgg5
 z5:=sizeOf5
 v5:=zeroValue5
 infoByte:=zk
 cellsByte:=zk
 sizeByte:=zk
 neB5:=by decide }
open Go.RowKit Go.Lib in
theorem Tryz.strings_ReplaceAll (s old new : ByteArray) (m : Int) (w : World) (hs : s.size < 4294967281) (hm : w.cell? ⟨0, 0, none⟩ = some (.int .i64 m)) (h1 : 1 ≤ old.size) (hlen : s.size + Lib.countB s old * new.size ≤ 140737488355328) :
    Calls prog 100 #[.string s, .string old, .string new] w fun e w' =>
      e = .returned (.string ⟨(Lib.replaceAll s.data.toList old.data.toList new.data.toList).toArray⟩) ∧ Below w.heap.size w w' := Any.strings_ReplaceAll lays155 Builder_Extra_155 s old new m w hs hm h1 hlen
def Tryz.lays150_ren : Go.Shelf.Ren := ⟨fun | 150 => 162 | 153 => 235 | 152 => 294 | 226 => 295 | 227 => 296 | 228 => 297 | 137 => 353 | 119 => 354 | 224 => 291 | 225 => 290 | 217 => 289 | 266 => 350 | n => n, fun | 9 => 9 | 4 => 4 | 3 => 3 | 5 => 5 | 21 => 21 | 117 => 377 | 116 => 376 | 0 => 0 | 46 => 235 | 124 => 445 | n => n, fun | n => n⟩
theorem Tryz.lays150 : Lays.n150 prog lays150_ren := {
 mixed:=zk
 f119:=zt func354
 f137:=zt func353
 f150:=zt func162
 f152:=zt func294
 f153:=zt func235
 f217:=zt func289
 f224:=zt func291
 f225:=zt func290
 f226:=zt func295
 f227:=zt func296
 f228:=zt func297
 f266:=zt func350
 t0:=underlying0
 a0:=isAgg0
 z0:=sizeOf0
 v0:=zeroValue0
 t3:=underlying3
 a3:=isAgg3
 z3:=sizeOf3
 v3:=zeroValue3
 t4:=underlying4
 a4:=isAgg4
 z4:=sizeOf4
 v4:=zeroValue4
 t5:=underlying5
 a5:=isAgg5
 z5:=sizeOf5
 v5:=zeroValue5
 t9:=underlying9
 a9:=isAgg9
 z9:=sizeOf9
 v9:=zeroValue9
 t21:=underlying21
 a21:=isAgg21
 z21:=sizeOf21
 v21:=zeroValue21
 t46:=underlying235
 a46:=isAgg235
 z46:=sizeOf235
 v46:=zeroValue235
 t116:=underlying376
 a116:=isAgg376
 z116:=sizeOf376
 t117:=underlying377
 a117:=isAgg377
 z117:=sizeOf377
 v117:=zeroValue377
 t124:=underlying445
 a124:=isAgg445
 z124:=sizeOf445
 v124:=zeroValue445 }
open Go.RowKit Go.Lib in
theorem Tryz.strings_ContainsAny_laid (s chars : ByteArray) (w : World) (hs : s.size < 4294967281) (hcs : chars.size < 4294967281) (has : ∀ (j : Nat) b, s.data.toList[j]? = some b → b.toNat < 128) (hac : ∀ (j : Nat) b, chars.data.toList[j]? = some b → b.toNat < 128) :
    Calls prog 162 #[.string s, .string chars] w fun e w' => e = .returned (.bool (Lib.containsAny s.data.toList chars.data.toList)) ∧ Below w.heap.size w w' := Any.strings_ContainsAny_laid lays150 zk s chars w hs hcs has hac
def Tryz.lays105_ren : Go.Shelf.Ren := ⟨fun | 105 => 180 | 212 => 254 | 99 => 154 | 165 => 98 | 166 => 56 | 170 => 255 | 169 => 58 | 263 => 328 | 264 => 329 | 206 => 228 | 240 => 103 | 241 => 158 | 276 => 164 | 277 => 231 | n => n, fun | 9 => 9 | 3 => 3 | 4 => 4 | 20 => 20 | 0 => 0 | 46 => 235 | 109 => 331 | 5 => 5 | 72 => 136 | 76 => 143 | 51 => 296 | 146 => 420 | 53 => 61 | 148 => 422 | 70 => 133 | 37 => 134 | 75 => 142 | 127 => 199 | 164 => 244 | 80 => 146 | n => n, fun | n => n⟩
theorem Tryz.lays105 : Lays.n105 prog lays105_ren := {
 mixed:=zk
 f99:=zt func154
 f105:=zt func180
 f165:=zt func98
 f166:=zt func56
 f169:=zt func58
 f170:=zt func255
 f206:=zt func228
 f212:=zt func254
 f240:=zt func103
 f241:=zt func158
 f263:=zt func328
 f264:=zt func329
 f276:=zt func164
 f277:=zt func231
 t0:=underlying0
 a0:=isAgg0
 z0:=sizeOf0
 v0:=zeroValue0
 t3:=underlying3
 a3:=isAgg3
 z3:=sizeOf3
 v3:=zeroValue3
 t4:=underlying4
 a4:=isAgg4
 z4:=sizeOf4
 v4:=zeroValue4
 t5:=underlying5
 a5:=isAgg5
 z5:=sizeOf5
 v5:=zeroValue5
 t9:=underlying9
 a9:=isAgg9
 z9:=sizeOf9
 v9:=zeroValue9
 t20:=underlying20
 a20:=isAgg20
 z20:=sizeOf20
 v20:=zeroValue20
 t37:=underlying134
 a37:=isAgg134
 z37:=sizeOf134
 v37:=zeroValue134
 t46:=underlying235
 a46:=isAgg235
 z46:=sizeOf235
 v46:=zeroValue235
 t51:=underlying296
 a51:=isAgg296
 z51:=sizeOf296
 v51:=zeroValue296
 t53:=underlying61
 a53:=isAgg61
 z53:=sizeOf61
 v53:=zeroValue61
 t70:=underlying133
 a70:=isAgg133
 z70:=sizeOf133
 v70:=zeroValue133
 t72:=underlying136
 a72:=isAgg136
 z72:=sizeOf136
 v72:=zeroValue136
 t75:=underlying142
 a75:=isAgg142
 z75:=sizeOf142
 v75:=zeroValue142
 t76:=underlying143
 a76:=isAgg143
 z76:=sizeOf143
 v76:=zeroValue143
 t109:=underlying331
 a109:=isAgg331
 z109:=sizeOf331
 v109:=zeroValue331
 t127:=underlying199
 a127:=isAgg199
 z127:=sizeOf199
 v127:=zeroValue199
 t146:=underlying420
 a146:=isAgg420
 z146:=sizeOf420
 v146:=zeroValue420
 t148:=underlying422
 a148:=isAgg422
 z148:=sizeOf422
 v148:=zeroValue422
 t164:=underlying244
 a164:=isAgg244
 z164:=sizeOf244
 v164:=zeroValue244 }
theorem Tryz.Builder_Extra_105 : Builder.Extra prog lays105_ren := {
 sizeBuilder:=zk
 liesBuilder:=zk
 t5:=underlying5
 a5:=isAgg5
 z5:=sizeOf5
 v5:=zeroValue5
 infoByte:=zk
 cellsByte:=zk
 sizeByte:=zk
 neB5:=by decide }
open Go.RowKit Go.Lib in
theorem Tryz.strings_Repeat_zero (s : ByteArray) (w : World) :
    Calls prog 180 #[.string s, .int .i64 0] w fun e w' => e = .returned (.string ⟨#[]⟩) ∧ w' = w := Any.strings_Repeat_zero lays105 s w
open Go.RowKit Go.Lib in
theorem Tryz.strings_Repeat_one (s : ByteArray) (w : World) :
    Calls prog 180 #[.string s, .int .i64 1] w fun e w' => e = .returned (.string s) ∧ w' = w := Any.strings_Repeat_one lays105 s w
open Go.RowKit Go.Lib in
theorem Tryz.strings_Repeat (s : ByteArray) (c : Nat) (w : World) (hc : c ≤ 9223372036854775807) (hlen : s.size * c ≤ 140737488355328) :
    Calls prog 180 #[.string s, .int .i64 c] w fun e w' => e = .returned (.string ⟨(Lib.repeatL s.data.toList c).toArray⟩) ∧ Below w.heap.size w w' := Any.strings_Repeat lays105 Builder_Extra_105 s c w hc hlen
def Tryz.laysNm215_ren : Go.Shelf.Ren := ⟨fun | 15 => 136 | n => n, fun | 22 => 44 | 3 => 3 | 4 => 4 | n => n, fun | n => n⟩
theorem Tryz.laysNm215 : Lays2.n15 prog laysNm215_ren := {
 mixed:=zk
 f15:=zt func136
 t3:=underlying3
 a3:=isAgg3
 z3:=sizeOf3
 v3:=zeroValue3
 t4:=underlying4
 a4:=isAgg4
 z4:=sizeOf4
 v4:=zeroValue4
 t22:=underlying44
 a22:=isAgg44
 z22:=sizeOf44
 v22:=zeroValue44
 i3:=by kernel_rfl }
open Go.RowKit Go.Lib in
theorem Tryz.slices_Clone_int (b off n c : Nat) (zs : List Int) (w : World) (hz : n ≤ zs.length) (hbig : n * 8 ≤ 140737488355328) (hc : ∀ j, j < zs.length → w.cell? ⟨b, off + j, none⟩ = some (.int .i64 (zs.getD j 0))) :
    Calls prog 136 #[.slice (some ⟨b, off, none⟩) n c] w fun e w' => ∃ v', e = .returned v' ∧ w'.ownsRow w.heap.size 3 1 v' n ((zs.take n).map (Value.int .i64)) ∧ v' ≠ .slice none 0 0 ∧ Below w.heap.size w w' := Any.slices_Clone_int laysNm215 b off n c zs w hz hbig hc
open Go.RowKit Go.Lib in
theorem Tryz.slices_Clone_int_nil (n c : Nat) (w : World) :
    Calls prog 136 #[.slice none n c] w fun e w' => e = .returned (.slice none 0 0) ∧ w' = w := Any.slices_Clone_int_nil laysNm215 n c w
open Go.RowKit Go.Lib in
theorem Tryz.slices_Clone_int_zero (a : Addr) (c : Nat) (w : World) :
    Calls prog 136 #[.slice (some a) 0 c] w fun e w' => ∃ v', e = .returned v' ∧ w'.ownsRow w.heap.size 3 1 v' 0 [] ∧ v' ≠ .slice none 0 0 ∧ Below w.heap.size w w' := Any.slices_Clone_int_zero laysNm215 a c w
open Go.RowKit Go.Sort in
theorem Tryz.slices_Sort_int_none (p : Option Addr) (cap : Nat) (w : World) :
    Calls prog 445 #[.slice p 0 cap] w fun e w' => e = .returned (.tuple #[]) ∧ w' = w := Any.slices_Sort_int_none lays189 p cap w
def Tryz.keysA_ren : Go.Shelf.Ren := ⟨fun | 7 => 425 | 10 => 446 | n => n, fun | 23 => 323 | 26 => 3 | 3 => 481 | 28 => 503 | 0 => 0 | 27 => 502 | 33 => 36 | 4 => 4 | n => n, fun | n => n⟩
theorem Tryz.keysA : SlLaysZI.n7 prog keysA_ren := {
 mixed:=zk
 f7:=⟨f425.name, by decide, zt func425⟩
 f10:=⟨f446.name, by decide, zt func446⟩
 t0:=underlying0
 a0:=isAgg0
 z0:=sizeOf0
 v0:=zeroValue0
 t4:=underlying4
 a4:=isAgg4
 z4:=sizeOf4
 v4:=zeroValue4
 t23:=underlying323
 a23:=isAgg323
 z23:=sizeOf323
 v23:=zeroValue323
 t26:=underlying3
 a26:=isAgg3
 z26:=sizeOf3
 v26:=zeroValue3
 t27:=underlying502
 a27:=isAgg502
 z27:=sizeOf502
 v27:=zeroValue502
 t28:=underlying503
 a28:=isAgg503
 z28:=sizeOf503
 v28:=zeroValue503
 t33:=underlying36
 a33:=isAgg36
 z33:=sizeOf36
 v33:=zeroValue36 }
def Tryz.collA_ren : Go.Shelf.Ren := ⟨fun | 8 => 444 | 11 => 449 | n => n, fun | 26 => 3 | 28 => 503 | 24 => 44 | 0 => 0 | 33 => 36 | 4 => 4 | n => n, fun | n => n⟩
theorem Tryz.collA : SlLaysZI.n8 prog collA_ren := {
 mixed:=zk
 f8:=⟨f444.name, by decide, zt func444⟩
 f11:=⟨f449.name, by decide, zt func449⟩
 t0:=underlying0
 a0:=isAgg0
 z0:=sizeOf0
 v0:=zeroValue0
 t24:=underlying44
 a24:=isAgg44
 z24:=sizeOf44
 v24:=zeroValue44
 t26:=underlying3
 a26:=isAgg3
 z26:=sizeOf3
 v26:=zeroValue3
 t28:=underlying503
 a28:=isAgg503
 z28:=sizeOf503
 v28:=zeroValue503
 i26:=by kernel_rfl }
end Go.Proofs
