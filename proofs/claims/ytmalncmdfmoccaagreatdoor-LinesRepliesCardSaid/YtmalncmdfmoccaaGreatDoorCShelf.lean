/- DERIVED: THE SHELF's CONTRACTS AT THIS DUMP, IN PLAIN WORDS (tools/lay-plain.mjs out of 'TryzShelf.lean', which tools/lay-shelf.mjs wrote): THE SAME DECLARATIONS UNDER THE SAME NAMES: 'import', 'namespace', 'open', 'def', 'theorem' AND NOTHING ELSE: no command of the shelf's: FOR A HAND-IN. Each laying: the table of numbers ('.._ren') and one theorem, a field a fact of the dump's own or the kernel's comparison; each contract: ONE APPLICATION. -/
import Derived.Shelf.Strings.Builder1
import Derived.Shelf.Strings.Builder2
import Derived.Shelf.Strings.OnBuilder
import Derived.Shelf.Small.Wraps
import Derived.Shelf.Strings.BuilderF
import Derived.Shelf.Strings.BuilderK
import Derived.Shelf.Utf8.RuneCount
import Derived.Shelf.Strings.Builder2Cap
import Derived.Shelf.Strconv.Atoi
import Derived.Shelf.Strconv.Itoa0
import Derived.Shelf.Strconv.Itoa1
import Derived.Shelf.LaysM
import Derived.Shelf.Strconv.Itoa2
import Derived.Shelf.Strconv.Itoa3
import Derived.Shelf.Strconv.AtoiErrFast
import Derived.Shelf.Strconv.ParseIntEmpty
import Derived.Shelf.Strconv.AtoiFail
import Derived.Shelf.Strconv.Clone
import Derived.Shelf.Strconv.SyntaxError
import Derived.Shelf.LaysC
import Derived.Shelf.Strconv.ToError
import Derived.Shelf.Strconv.AtoiErr
import Derived.Shelf.Strconv.ErrVar
import Derived.Shelf.Strconv.Lower
import Derived.Shelf.Strconv.ParseUint10
import Derived.Shelf.Strconv.ParseUint10Empty
import Derived.Shelf.Strconv.ParseUint10Any
import Derived.Shelf.Strconv.ParseInt10
import Derived.Shelf.Strconv.AtoiLong
import Derived.Shelf.Strconv.AtoiInnerAll
import Derived.Shelf.Strconv.RangeError
import Derived.Shelf.Strconv.ToErrorRange
import Derived.Shelf.Strconv.AtoiAll
import Derived.Shelf.Strconv.ErrVarAll
import Derived.Shelf.Strings.Search1
import Derived.Shelf.Strings.Search2
import Derived.Shelf.Strings.Search3
import Derived.Shelf.Strings.Cut
import Derived.Shelf.Strings.Count
import Derived.Shelf.Strings.Shaped
import Derived.Shelf.GgClosure.StringsIndexFunc
import Derived.Ground.GgwProg
import Derived.Shelf.GgClosure.StringsIndexFuncTop
import Derived.Shelf.GgClosure.StringsRunes
import Derived.Shelf.Strings.Prefix
import Derived.Shelf.Strings.Split
import Derived.Shelf.Strings.Replace
import Derived.Shelf.Strings.SplitShaped
import Derived.Shelf.Unicode.Decode
import Derived.Shelf.Strings.RuneCount
import Derived.Shelf.Strings.Explode
import Derived.Shelf.Unicode.DecodeSlow
import Derived.Shelf.Unicode.DecodeAny
import Derived.Shelf.Strings.FuncGrows
import Derived.Shelf.Strings.BuilderCap
import Derived.Shelf.Slices.Turned
import Derived.Test.YtmalncmdfmoccaaGreatDoorProg
namespace Go.Proofs
open Go.Shelf
def Tryz.lays170_ren : Go.Shelf.Ren:=⟨fun | 170 => 46 | n => n,fun | 70 => 94 | 3 => 3 | 0 => 0 | 72 => 97 | 37 => 95 | 5 => 5 | n => n,fun | n => n⟩
theorem Tryz.lays170 : Go.Proofs.Lays.n170 Tryz.prog Tryz.lays170_ren:={
  mixed:=by kernel_rfl
  f170:=Tryz.func46.trans (congrArg some (by kernel_rfl))
  t0:=Tryz.underlying0
  a0:=Tryz.isAgg0
  z0:=Tryz.sizeOf0
  v0:=Tryz.zeroValue0
  t3:=Tryz.underlying3
  a3:=Tryz.isAgg3
  z3:=Tryz.sizeOf3
  v3:=Tryz.zeroValue3
  t37:=Tryz.underlying95
  a37:=Tryz.isAgg95
  z37:=Tryz.sizeOf95
  v37:=Tryz.zeroValue95
  t70:=Tryz.underlying94
  a70:=Tryz.isAgg94
  z70:=Tryz.sizeOf94
  v70:=Tryz.zeroValue94
  t72:=Tryz.underlying97
  a72:=Tryz.isAgg97
  z72:=Tryz.sizeOf97
  v72:=Tryz.zeroValue97 }
def Tryz.lays169_ren : Go.Shelf.Ren:=⟨fun | 169 => 47 | n => n,fun | 70 => 94 | 9 => 9 | 0 => 0 | 72 => 97 | 37 => 95 | 127 => 133 | 3 => 3 | 5 => 5 | n => n,fun | n => n⟩
theorem Tryz.lays169 : Go.Proofs.Lays.n169 Tryz.prog Tryz.lays169_ren:={
  mixed:=by kernel_rfl
  f169:=Tryz.func47.trans (congrArg some (by kernel_rfl))
  t0:=Tryz.underlying0
  a0:=Tryz.isAgg0
  z0:=Tryz.sizeOf0
  v0:=Tryz.zeroValue0
  t3:=Tryz.underlying3
  a3:=Tryz.isAgg3
  z3:=Tryz.sizeOf3
  v3:=Tryz.zeroValue3
  t9:=Tryz.underlying9
  a9:=Tryz.isAgg9
  z9:=Tryz.sizeOf9
  v9:=Tryz.zeroValue9
  t37:=Tryz.underlying95
  a37:=Tryz.isAgg95
  z37:=Tryz.sizeOf95
  v37:=Tryz.zeroValue95
  t70:=Tryz.underlying94
  a70:=Tryz.isAgg94
  z70:=Tryz.sizeOf94
  v70:=Tryz.zeroValue94
  t72:=Tryz.underlying97
  a72:=Tryz.isAgg97
  z72:=Tryz.sizeOf97
  v72:=Tryz.zeroValue97
  t127:=Tryz.underlying133
  a127:=Tryz.isAgg133
  z127:=Tryz.sizeOf133
  v127:=Tryz.zeroValue133 }
theorem Tryz.Builder_Extra_169 : Builder.Extra Tryz.prog Tryz.lays169_ren:={
  sizeBuilder:=by kernel_rfl
  liesBuilder:=by kernel_rfl
  t5:=Tryz.underlying5
  a5:=Tryz.isAgg5
  z5:=Tryz.sizeOf5
  v5:=Tryz.zeroValue5
  infoByte:=by kernel_rfl
  cellsByte:=by kernel_rfl
  sizeByte:=by kernel_rfl
  neB5:=by decide }
def Tryz.lays156_ren : Go.Shelf.Ren:=⟨fun | 156 => 61 | 165 => 105 | 166 => 45 | 169 => 47 | 240 => 89 | 241 => 151 | 276 => 135 | 277 => 193 | n => n,fun | 31 => 63 | 9 => 9 | 3 => 3 | 4 => 4 | 0 => 0 | 20 => 20 | 72 => 97 | 76 => 103 | 70 => 94 | 37 => 95 | 75 => 102 | 127 => 133 | 164 => 175 | 5 => 5 | 80 => 106 | n => n,fun | n => n⟩
theorem Tryz.lays156 : Go.Proofs.Lays.n156 Tryz.prog Tryz.lays156_ren:={
  mixed:=by kernel_rfl
  f156:=Tryz.func61.trans (congrArg some (by kernel_rfl))
  f165:=Tryz.func105.trans (congrArg some (by kernel_rfl))
  f166:=Tryz.func45.trans (congrArg some (by kernel_rfl))
  f169:=Tryz.func47.trans (congrArg some (by kernel_rfl))
  f240:=Tryz.func89.trans (congrArg some (by kernel_rfl))
  f241:=Tryz.func151.trans (congrArg some (by kernel_rfl))
  f276:=Tryz.func135.trans (congrArg some (by kernel_rfl))
  f277:=Tryz.func193.trans (congrArg some (by kernel_rfl))
  t0:=Tryz.underlying0
  a0:=Tryz.isAgg0
  z0:=Tryz.sizeOf0
  v0:=Tryz.zeroValue0
  t3:=Tryz.underlying3
  a3:=Tryz.isAgg3
  z3:=Tryz.sizeOf3
  v3:=Tryz.zeroValue3
  t4:=Tryz.underlying4
  a4:=Tryz.isAgg4
  z4:=Tryz.sizeOf4
  v4:=Tryz.zeroValue4
  t9:=Tryz.underlying9
  a9:=Tryz.isAgg9
  z9:=Tryz.sizeOf9
  v9:=Tryz.zeroValue9
  t20:=Tryz.underlying20
  a20:=Tryz.isAgg20
  z20:=Tryz.sizeOf20
  v20:=Tryz.zeroValue20
  t31:=Tryz.underlying63
  a31:=Tryz.isAgg63
  z31:=Tryz.sizeOf63
  v31:=Tryz.zeroValue63
  t37:=Tryz.underlying95
  a37:=Tryz.isAgg95
  z37:=Tryz.sizeOf95
  v37:=Tryz.zeroValue95
  t70:=Tryz.underlying94
  a70:=Tryz.isAgg94
  z70:=Tryz.sizeOf94
  v70:=Tryz.zeroValue94
  t72:=Tryz.underlying97
  a72:=Tryz.isAgg97
  z72:=Tryz.sizeOf97
  v72:=Tryz.zeroValue97
  t75:=Tryz.underlying102
  a75:=Tryz.isAgg102
  z75:=Tryz.sizeOf102
  v75:=Tryz.zeroValue102
  t76:=Tryz.underlying103
  a76:=Tryz.isAgg103
  z76:=Tryz.sizeOf103
  v76:=Tryz.zeroValue103
  t127:=Tryz.underlying133
  a127:=Tryz.isAgg133
  z127:=Tryz.sizeOf133
  v127:=Tryz.zeroValue133
  t164:=Tryz.underlying175
  a164:=Tryz.isAgg175
  z164:=Tryz.sizeOf175
  v164:=Tryz.zeroValue175 }
theorem Tryz.Builder_Extra_156 : Builder.Extra Tryz.prog Tryz.lays156_ren:={
  sizeBuilder:=by kernel_rfl
  liesBuilder:=by kernel_rfl
  t5:=Tryz.underlying5
  a5:=Tryz.isAgg5
  z5:=Tryz.sizeOf5
  v5:=Tryz.zeroValue5
  infoByte:=by kernel_rfl
  cellsByte:=by kernel_rfl
  sizeByte:=by kernel_rfl
  neB5:=by decide }
open Go.RowKit in
theorem Tryz.strings_Join (bk o c : Nat) (xs : List ByteArray) (sep : ByteArray) (w : World) (hcells : ∀ (j : Nat) x,xs[j]? = some x → w.cell? ⟨bk,o + j,none⟩ = some (.string x)) (hbk : bk < w.heap.size) (hN : xs.length ≤ 140737488355328) (hcap : xs.length ≤ c) (hlen : (Lib.join (xs.map (·.data.toList)) sep.data.toList).length ≤ 140737488355328) :
    Calls Tryz.prog 61 #[.slice (some ⟨bk,o,none⟩) xs.length c,.string sep] w fun e w' => e = .returned (.string ⟨(Lib.join (xs.map (·.data.toList)) sep.data.toList).toArray⟩) ∧ Below w.heap.size w w':=Any.strings_Join Tryz.lays156 Tryz.Builder_Extra_156 bk o c xs sep w hcells hbk hN hcap hlen
open Go.RowKit in
theorem Tryz.Builder_Len_f (B b : Nat) (bs : List Value) (w : World) (h : Lib.IsBuilderF 97 5 B b bs w) :
    Calls Tryz.prog 46 #[.pointer (some ⟨b,0,none⟩)] w fun e w' => e = .returned (.int .i64 bs.length) ∧ w' = w:=Any.Builder_Len_f Tryz.lays170 B b bs w h
open Go.RowKit in
theorem Tryz.Builder_String_any_f (B b : Nat) (l : List UInt8) (w : World) (h : Lib.IsBuilderF 97 5 B b (Lib.byteCells l) w) (hBw : B ≤ w.heap.size) :
    Calls Tryz.prog 47 #[.pointer (some ⟨b,0,none⟩)] w fun e w' => e = .returned (.string ⟨l.toArray⟩) ∧ (Lib.IsBuilderF 97 5 B b (Lib.byteCells l) w' ∧ Below B w w'):=Any.Builder_String_any_f Tryz.lays169 Tryz.Builder_Extra_169 B b l w h hBw
def Tryz.laysM171_ren : Go.Shelf.Ren:=⟨fun | 171 => 51 | 243 => 97 | 246 => 137 | 283 => 185 | 284 => 186 | 285 => 187 | 286 => 188 | 129 => 213 | 317 => 212 | 318 => 214 | 319 => 215 | 320 => 216 | 337 => 237 | 338 => 150 | n => n,fun | 3 => 3 | 9 => 9 | 2 => 2 | 4 => 4 | 171 => 218 | 0 => 0 | 53 => 50 | 37 => 95 | 5 => 5 | 173 => 220 | 212 => 246 | 51 => 227 | 20 => 20 | 213 => 247 | 46 => 142 | 232 => 295 | 233 => 225 | n => n,fun | 17 => 3 | 18 => 8 | 19 => 2 | n => n⟩
theorem Tryz.laysM171 : Go.Proofs.LaysM.n171 Tryz.prog Tryz.laysM171_ren:={
  mixed:=by kernel_rfl
  f129:=Tryz.func213.trans (congrArg some (by kernel_rfl))
  f171:=Tryz.func51.trans (congrArg some (by kernel_rfl))
  f243:=Tryz.func97.trans (congrArg some (by kernel_rfl))
  f246:=Tryz.func137.trans (congrArg some (by kernel_rfl))
  f283:=Tryz.func185.trans (congrArg some (by kernel_rfl))
  f284:=Tryz.func186.trans (congrArg some (by kernel_rfl))
  f285:=Tryz.func187.trans (congrArg some (by kernel_rfl))
  f286:=Tryz.func188.trans (congrArg some (by kernel_rfl))
  f317:=Tryz.func212.trans (congrArg some (by kernel_rfl))
  f318:=Tryz.func214.trans (congrArg some (by kernel_rfl))
  f319:=Tryz.func215.trans (congrArg some (by kernel_rfl))
  f320:=Tryz.func216.trans (congrArg some (by kernel_rfl))
  f337:=Tryz.func237.trans (congrArg some (by kernel_rfl))
  f338:=Tryz.func150.trans (congrArg some (by kernel_rfl))
  t0:=Tryz.underlying0
  a0:=Tryz.isAgg0
  z0:=Tryz.sizeOf0
  v0:=Tryz.zeroValue0
  t2:=Tryz.underlying2
  a2:=Tryz.isAgg2
  z2:=Tryz.sizeOf2
  v2:=Tryz.zeroValue2
  t3:=Tryz.underlying3
  a3:=Tryz.isAgg3
  z3:=Tryz.sizeOf3
  v3:=Tryz.zeroValue3
  t4:=Tryz.underlying4
  a4:=Tryz.isAgg4
  z4:=Tryz.sizeOf4
  v4:=Tryz.zeroValue4
  t5:=Tryz.underlying5
  a5:=Tryz.isAgg5
  z5:=Tryz.sizeOf5
  v5:=Tryz.zeroValue5
  t9:=Tryz.underlying9
  a9:=Tryz.isAgg9
  z9:=Tryz.sizeOf9
  v9:=Tryz.zeroValue9
  t20:=Tryz.underlying20
  a20:=Tryz.isAgg20
  z20:=Tryz.sizeOf20
  v20:=Tryz.zeroValue20
  t37:=Tryz.underlying95
  a37:=Tryz.isAgg95
  z37:=Tryz.sizeOf95
  v37:=Tryz.zeroValue95
  t46:=Tryz.underlying142
  a46:=Tryz.isAgg142
  z46:=Tryz.sizeOf142
  v46:=Tryz.zeroValue142
  t51:=Tryz.underlying227
  a51:=Tryz.isAgg227
  z51:=Tryz.sizeOf227
  v51:=Tryz.zeroValue227
  t53:=Tryz.underlying50
  a53:=Tryz.isAgg50
  z53:=Tryz.sizeOf50
  v53:=Tryz.zeroValue50
  t171:=Tryz.underlying218
  a171:=Tryz.isAgg218
  z171:=Tryz.sizeOf218
  v171:=Tryz.zeroValue218
  t173:=Tryz.underlying220
  a173:=Tryz.isAgg220
  z173:=Tryz.sizeOf220
  v173:=Tryz.zeroValue220
  t212:=Tryz.underlying246
  a212:=Tryz.isAgg246
  z212:=Tryz.sizeOf246
  v212:=Tryz.zeroValue246
  t213:=Tryz.underlying247
  a213:=Tryz.isAgg247
  z213:=Tryz.sizeOf247
  t232:=Tryz.underlying295
  a232:=Tryz.isAgg295
  z232:=Tryz.sizeOf295
  v232:=Tryz.zeroValue295
  t233:=Tryz.underlying225
  a233:=Tryz.isAgg225
  z233:=Tryz.sizeOf225
  v233:=Tryz.zeroValue225
  g17:=by kernel_rfl
  g18:=by kernel_rfl
  g19:=by kernel_rfl
  i0:=by kernel_rfl
  i2:=by kernel_rfl
  i3:=by kernel_rfl
  i4:=by kernel_rfl
  i5:=by kernel_rfl
  i9:=by kernel_rfl
  i20:=by kernel_rfl
  i37:=by kernel_rfl
  i46:=by kernel_rfl
  i51:=by kernel_rfl
  i53:=by kernel_rfl
  i171:=by kernel_rfl
  i173:=by kernel_rfl
  i212:=by kernel_rfl
  i232:=by kernel_rfl
  i233:=by kernel_rfl
  m17:=by kernel_rfl
  m18:=by kernel_rfl
  m19:=by kernel_rfl }
open Go.RowKit Go.Sort Go.Lib in
theorem Tryz.strconv_Itoa (n : Int) (h0 : -9223372036854775808 ≤ n) (h1 : n ≤ 9223372036854775807) (w : World) (htab : Lib.TabIs Tryz.prog w "internal/strconv.uint64pow10" .u64 Lib.pow10Tab) :
    Calls Tryz.prog 51 #[.int .i64 n] w fun e w' => e = .returned (.string ⟨(Lib.itoa n).toArray⟩) ∧ ∃ k os,w' = grow (w.drewN k) os:=Any.strconv_Itoa Tryz.laysM171 n h0 h1 w htab
def Tryz.lays171_ren : Go.Shelf.Ren:=⟨fun | 171 => 51 | 243 => 97 | 246 => 137 | 283 => 185 | 284 => 186 | 285 => 187 | 286 => 188 | 129 => 213 | 317 => 212 | 318 => 214 | 319 => 215 | 320 => 216 | 337 => 237 | 338 => 150 | n => n,fun | 3 => 3 | 9 => 9 | 2 => 2 | 4 => 4 | 171 => 218 | 0 => 0 | 53 => 50 | 37 => 95 | 5 => 5 | 173 => 220 | 212 => 246 | 51 => 227 | 20 => 20 | 213 => 247 | 46 => 142 | 232 => 295 | 233 => 225 | n => n,fun | 17 => 3 | 18 => 8 | 19 => 2 | n => n⟩
theorem Tryz.lays171 : Go.Proofs.Lays.n171 Tryz.prog Tryz.lays171_ren:={
  mixed:=by kernel_rfl
  f129:=Tryz.func213.trans (congrArg some (by kernel_rfl))
  f171:=Tryz.func51.trans (congrArg some (by kernel_rfl))
  f243:=Tryz.func97.trans (congrArg some (by kernel_rfl))
  f246:=Tryz.func137.trans (congrArg some (by kernel_rfl))
  f283:=Tryz.func185.trans (congrArg some (by kernel_rfl))
  f284:=Tryz.func186.trans (congrArg some (by kernel_rfl))
  f285:=Tryz.func187.trans (congrArg some (by kernel_rfl))
  f286:=Tryz.func188.trans (congrArg some (by kernel_rfl))
  f317:=Tryz.func212.trans (congrArg some (by kernel_rfl))
  f318:=Tryz.func214.trans (congrArg some (by kernel_rfl))
  f319:=Tryz.func215.trans (congrArg some (by kernel_rfl))
  f320:=Tryz.func216.trans (congrArg some (by kernel_rfl))
  f337:=Tryz.func237.trans (congrArg some (by kernel_rfl))
  f338:=Tryz.func150.trans (congrArg some (by kernel_rfl))
  t0:=Tryz.underlying0
  a0:=Tryz.isAgg0
  z0:=Tryz.sizeOf0
  v0:=Tryz.zeroValue0
  t2:=Tryz.underlying2
  a2:=Tryz.isAgg2
  z2:=Tryz.sizeOf2
  v2:=Tryz.zeroValue2
  t3:=Tryz.underlying3
  a3:=Tryz.isAgg3
  z3:=Tryz.sizeOf3
  v3:=Tryz.zeroValue3
  t4:=Tryz.underlying4
  a4:=Tryz.isAgg4
  z4:=Tryz.sizeOf4
  v4:=Tryz.zeroValue4
  t5:=Tryz.underlying5
  a5:=Tryz.isAgg5
  z5:=Tryz.sizeOf5
  v5:=Tryz.zeroValue5
  t9:=Tryz.underlying9
  a9:=Tryz.isAgg9
  z9:=Tryz.sizeOf9
  v9:=Tryz.zeroValue9
  t20:=Tryz.underlying20
  a20:=Tryz.isAgg20
  z20:=Tryz.sizeOf20
  v20:=Tryz.zeroValue20
  t37:=Tryz.underlying95
  a37:=Tryz.isAgg95
  z37:=Tryz.sizeOf95
  v37:=Tryz.zeroValue95
  t46:=Tryz.underlying142
  a46:=Tryz.isAgg142
  z46:=Tryz.sizeOf142
  v46:=Tryz.zeroValue142
  t51:=Tryz.underlying227
  a51:=Tryz.isAgg227
  z51:=Tryz.sizeOf227
  v51:=Tryz.zeroValue227
  t53:=Tryz.underlying50
  a53:=Tryz.isAgg50
  z53:=Tryz.sizeOf50
  v53:=Tryz.zeroValue50
  t171:=Tryz.underlying218
  a171:=Tryz.isAgg218
  z171:=Tryz.sizeOf218
  v171:=Tryz.zeroValue218
  t173:=Tryz.underlying220
  a173:=Tryz.isAgg220
  z173:=Tryz.sizeOf220
  v173:=Tryz.zeroValue220
  t212:=Tryz.underlying246
  a212:=Tryz.isAgg246
  z212:=Tryz.sizeOf246
  v212:=Tryz.zeroValue246
  t213:=Tryz.underlying247
  a213:=Tryz.isAgg247
  z213:=Tryz.sizeOf247
  t232:=Tryz.underlying295
  a232:=Tryz.isAgg295
  z232:=Tryz.sizeOf295
  v232:=Tryz.zeroValue295
  t233:=Tryz.underlying225
  a233:=Tryz.isAgg225
  z233:=Tryz.sizeOf225
  v233:=Tryz.zeroValue225
  g17:=by kernel_rfl
  g18:=by kernel_rfl
  g19:=by kernel_rfl }
open Go.RowKit Go.Sort Go.Lib in
theorem Tryz.strconv_Itoa_small (i : Nat) (hi : i < 100) (w : World) :
    Calls Tryz.prog 51 #[.int .i64 i] w fun e w' => e = .returned (.string ⟨(Lib.decDigits i).toArray⟩) ∧ w' = w:=Any.strconv_Itoa_small Tryz.lays171 i hi w
def Tryz.laysC172_ren : Go.Shelf.Ren:=⟨fun | 172 => 173 | 244 => 200 | 245 => 175 | 247 => 217 | 279 => 203 | 280 => 204 | 281 => 205 | 282 => 206 | 287 => 174 | 316 => 218 | 171 => 51 | 205 => 219 | 321 => 201 | 322 => 202 | 243 => 97 | 246 => 137 | 283 => 185 | 284 => 186 | 285 => 187 | 286 => 188 | 129 => 213 | 317 => 212 | 318 => 214 | 319 => 215 | 320 => 216 | 337 => 237 | 338 => 150 | n => n,fun | 9 => 9 | 3 => 3 | 75 => 102 | 76 => 103 | 4 => 4 | 5 => 5 | 167 => 232 | 37 => 95 | 0 => 0 | 85 => 253 | 2 => 2 | 168 => 233 | 53 => 50 | 175 => 163 | 46 => 142 | 210 => 256 | 127 => 133 | 145 => 283 | 143 => 281 | 21 => 21 | 171 => 218 | 173 => 220 | 212 => 246 | 51 => 227 | 20 => 20 | 213 => 247 | 232 => 295 | 233 => 225 | 80 => 106 | n => n,fun | 15 => 6 | 16 => 7 | 17 => 3 | 18 => 8 | 19 => 2 | n => n⟩
theorem Tryz.laysC172 : Go.Proofs.LaysC.n172 Tryz.prog Tryz.laysC172_ren:={
  mixed:=by kernel_rfl
  f129:=Tryz.func213.trans (congrArg some (by kernel_rfl))
  f171:=Tryz.func51.trans (congrArg some (by kernel_rfl))
  f172:=Tryz.func173.trans (congrArg some (by kernel_rfl))
  f205:=Tryz.func219.trans (congrArg some (by kernel_rfl))
  f243:=Tryz.func97.trans (congrArg some (by kernel_rfl))
  f244:=Tryz.func200.trans (congrArg some (by kernel_rfl))
  f245:=Tryz.func175.trans (congrArg some (by kernel_rfl))
  f246:=Tryz.func137.trans (congrArg some (by kernel_rfl))
  f247:=Tryz.func217.trans (congrArg some (by kernel_rfl))
  f279:=Tryz.func203.trans (congrArg some (by kernel_rfl))
  f280:=Tryz.func204.trans (congrArg some (by kernel_rfl))
  f281:=Tryz.func205.trans (congrArg some (by kernel_rfl))
  f282:=Tryz.func206.trans (congrArg some (by kernel_rfl))
  f283:=Tryz.func185.trans (congrArg some (by kernel_rfl))
  f284:=Tryz.func186.trans (congrArg some (by kernel_rfl))
  f285:=Tryz.func187.trans (congrArg some (by kernel_rfl))
  f286:=Tryz.func188.trans (congrArg some (by kernel_rfl))
  f287:=Tryz.func174.trans (congrArg some (by kernel_rfl))
  f316:=Tryz.func218.trans (congrArg some (by kernel_rfl))
  f317:=Tryz.func212.trans (congrArg some (by kernel_rfl))
  f318:=Tryz.func214.trans (congrArg some (by kernel_rfl))
  f319:=Tryz.func215.trans (congrArg some (by kernel_rfl))
  f320:=Tryz.func216.trans (congrArg some (by kernel_rfl))
  f321:=Tryz.func201.trans (congrArg some (by kernel_rfl))
  f322:=Tryz.func202.trans (congrArg some (by kernel_rfl))
  f337:=Tryz.func237.trans (congrArg some (by kernel_rfl))
  f338:=Tryz.func150.trans (congrArg some (by kernel_rfl))
  t0:=Tryz.underlying0
  a0:=Tryz.isAgg0
  z0:=Tryz.sizeOf0
  v0:=Tryz.zeroValue0
  t2:=Tryz.underlying2
  a2:=Tryz.isAgg2
  z2:=Tryz.sizeOf2
  v2:=Tryz.zeroValue2
  t3:=Tryz.underlying3
  a3:=Tryz.isAgg3
  z3:=Tryz.sizeOf3
  v3:=Tryz.zeroValue3
  t4:=Tryz.underlying4
  a4:=Tryz.isAgg4
  z4:=Tryz.sizeOf4
  v4:=Tryz.zeroValue4
  t5:=Tryz.underlying5
  a5:=Tryz.isAgg5
  z5:=Tryz.sizeOf5
  v5:=Tryz.zeroValue5
  t9:=Tryz.underlying9
  a9:=Tryz.isAgg9
  z9:=Tryz.sizeOf9
  v9:=Tryz.zeroValue9
  t20:=Tryz.underlying20
  a20:=Tryz.isAgg20
  z20:=Tryz.sizeOf20
  v20:=Tryz.zeroValue20
  t21:=Tryz.underlying21
  a21:=Tryz.isAgg21
  z21:=Tryz.sizeOf21
  v21:=Tryz.zeroValue21
  t37:=Tryz.underlying95
  a37:=Tryz.isAgg95
  z37:=Tryz.sizeOf95
  v37:=Tryz.zeroValue95
  t46:=Tryz.underlying142
  a46:=Tryz.isAgg142
  z46:=Tryz.sizeOf142
  v46:=Tryz.zeroValue142
  t51:=Tryz.underlying227
  a51:=Tryz.isAgg227
  z51:=Tryz.sizeOf227
  v51:=Tryz.zeroValue227
  t53:=Tryz.underlying50
  a53:=Tryz.isAgg50
  z53:=Tryz.sizeOf50
  v53:=Tryz.zeroValue50
  t75:=Tryz.underlying102
  a75:=Tryz.isAgg102
  z75:=Tryz.sizeOf102
  v75:=Tryz.zeroValue102
  t76:=Tryz.underlying103
  a76:=Tryz.isAgg103
  z76:=Tryz.sizeOf103
  v76:=Tryz.zeroValue103
  t85:=Tryz.underlying253
  a85:=Tryz.isAgg253
  z85:=Tryz.sizeOf253
  v85:=Tryz.zeroValue253
  t127:=Tryz.underlying133
  a127:=Tryz.isAgg133
  z127:=Tryz.sizeOf133
  v127:=Tryz.zeroValue133
  t143:=Tryz.underlying281
  a143:=Tryz.isAgg281
  z143:=Tryz.sizeOf281
  v143:=Tryz.zeroValue281
  t145:=Tryz.underlying283
  a145:=Tryz.isAgg283
  z145:=Tryz.sizeOf283
  v145:=Tryz.zeroValue283
  t167:=Tryz.underlying232
  a167:=Tryz.isAgg232
  z167:=Tryz.sizeOf232
  v167:=Tryz.zeroValue232
  t168:=Tryz.underlying233
  a168:=Tryz.isAgg233
  z168:=Tryz.sizeOf233
  v168:=Tryz.zeroValue233
  t171:=Tryz.underlying218
  a171:=Tryz.isAgg218
  z171:=Tryz.sizeOf218
  v171:=Tryz.zeroValue218
  t173:=Tryz.underlying220
  a173:=Tryz.isAgg220
  z173:=Tryz.sizeOf220
  v173:=Tryz.zeroValue220
  t175:=Tryz.underlying163
  a175:=Tryz.isAgg163
  z175:=Tryz.sizeOf163
  v175:=Tryz.zeroValue163
  t210:=Tryz.underlying256
  a210:=Tryz.isAgg256
  z210:=Tryz.sizeOf256
  v210:=Tryz.zeroValue256
  t212:=Tryz.underlying246
  a212:=Tryz.isAgg246
  z212:=Tryz.sizeOf246
  v212:=Tryz.zeroValue246
  t213:=Tryz.underlying247
  a213:=Tryz.isAgg247
  z213:=Tryz.sizeOf247
  t232:=Tryz.underlying295
  a232:=Tryz.isAgg295
  z232:=Tryz.sizeOf295
  v232:=Tryz.zeroValue295
  t233:=Tryz.underlying225
  a233:=Tryz.isAgg225
  z233:=Tryz.sizeOf225
  v233:=Tryz.zeroValue225
  g15:=by kernel_rfl
  g16:=by kernel_rfl
  g17:=by kernel_rfl
  g18:=by kernel_rfl
  g19:=by kernel_rfl
  t80:=Tryz.underlying106
  a80:=Tryz.isAgg106
  z80:=Tryz.sizeOf106
  v80:=Tryz.zeroValue106
  i0:=by kernel_rfl
  i2:=by kernel_rfl
  i3:=by kernel_rfl
  i4:=by kernel_rfl
  i5:=by kernel_rfl
  i9:=by kernel_rfl
  i20:=by kernel_rfl
  i21:=by kernel_rfl
  i37:=by kernel_rfl
  i46:=by kernel_rfl
  i51:=by kernel_rfl
  i53:=by kernel_rfl
  i75:=by kernel_rfl
  i76:=by kernel_rfl
  i80:=by kernel_rfl
  i85:=by kernel_rfl
  i127:=by kernel_rfl
  i143:=by kernel_rfl
  i145:=by kernel_rfl
  i167:=by kernel_rfl
  i168:=by kernel_rfl
  i171:=by kernel_rfl
  i173:=by kernel_rfl
  i175:=by kernel_rfl
  i210:=by kernel_rfl
  i212:=by kernel_rfl
  i232:=by kernel_rfl
  i233:=by kernel_rfl
  m15:=by kernel_rfl
  m16:=by kernel_rfl
  m17:=by kernel_rfl
  m18:=by kernel_rfl
  m19:=by kernel_rfl
  c0:=by kernel_rfl
  c2:=by kernel_rfl
  c3:=by kernel_rfl
  c4:=by kernel_rfl
  c5:=by kernel_rfl
  c9:=by kernel_rfl
  c20:=by kernel_rfl
  c21:=by kernel_rfl
  c37:=by kernel_rfl
  c46:=by kernel_rfl
  c51:=by kernel_rfl
  c53:=by kernel_rfl
  c75:=by kernel_rfl
  c76:=by kernel_rfl
  c80:=by kernel_rfl
  c85:=by kernel_rfl
  c127:=by kernel_rfl
  c143:=by kernel_rfl
  c145:=by kernel_rfl
  c167:=by kernel_rfl
  c168:=by kernel_rfl
  c171:=by kernel_rfl
  c173:=by kernel_rfl
  c175:=by kernel_rfl
  c210:=by kernel_rfl
  c212:=by kernel_rfl
  c213:=by kernel_rfl
  c232:=by kernel_rfl
  c233:=by kernel_rfl }
open Go.RowKit in
theorem Tryz.strconv_Atoi_ok (s : ByteArray) (hmax : s.size ≤ 9223372036854775806) (v : Int) (h : Lib.atoiAll s.data.toList = .ok v) (w : World) :
    Calls Tryz.prog 173 #[.string s] w fun e w' => e = .returned (.tuple #[.int .i64 v,.nilIface]) ∧ (w' = w ∨ ∃ t,w' = Lib.bytesWorld w 5 t):=Any.strconv_Atoi_ok Tryz.laysC172 s hmax v h w
def Tryz.lays145_ren : Go.Shelf.Ren:=⟨fun | 145 => 41 | 220 => 70 | 219 => 114 | 217 => 160 | 225 => 161 | 224 => 162 | 267 => 163 | 266 => 197 | 314 => 198 | n => n,fun | 9 => 9 | 4 => 4 | 59 => 90 | 3 => 3 | 5 => 5 | 46 => 142 | 146 => 228 | 51 => 227 | n => n,fun | 1 => 1 | n => n⟩
theorem Tryz.lays145 : Go.Proofs.Lays.n145 Tryz.prog Tryz.lays145_ren:={
  mixed:=by kernel_rfl
  f145:=Tryz.func41.trans (congrArg some (by kernel_rfl))
  f217:=Tryz.func160.trans (congrArg some (by kernel_rfl))
  f219:=Tryz.func114.trans (congrArg some (by kernel_rfl))
  f220:=Tryz.func70.trans (congrArg some (by kernel_rfl))
  f224:=Tryz.func162.trans (congrArg some (by kernel_rfl))
  f225:=Tryz.func161.trans (congrArg some (by kernel_rfl))
  f266:=Tryz.func197.trans (congrArg some (by kernel_rfl))
  f267:=Tryz.func163.trans (congrArg some (by kernel_rfl))
  f314:=Tryz.func198.trans (congrArg some (by kernel_rfl))
  t3:=Tryz.underlying3
  a3:=Tryz.isAgg3
  z3:=Tryz.sizeOf3
  v3:=Tryz.zeroValue3
  t4:=Tryz.underlying4
  a4:=Tryz.isAgg4
  z4:=Tryz.sizeOf4
  v4:=Tryz.zeroValue4
  t5:=Tryz.underlying5
  a5:=Tryz.isAgg5
  z5:=Tryz.sizeOf5
  v5:=Tryz.zeroValue5
  t9:=Tryz.underlying9
  a9:=Tryz.isAgg9
  z9:=Tryz.sizeOf9
  v9:=Tryz.zeroValue9
  t46:=Tryz.underlying142
  a46:=Tryz.isAgg142
  z46:=Tryz.sizeOf142
  v46:=Tryz.zeroValue142
  t51:=Tryz.underlying227
  a51:=Tryz.isAgg227
  z51:=Tryz.sizeOf227
  v51:=Tryz.zeroValue227
  t59:=Tryz.underlying90
  a59:=Tryz.isAgg90
  z59:=Tryz.sizeOf90
  v59:=Tryz.zeroValue90
  t146:=Tryz.underlying228
  a146:=Tryz.isAgg228
  z146:=Tryz.sizeOf228
  v146:=Tryz.zeroValue228
  g1:=by kernel_rfl }
open Go.RowKit Go.Lib in
theorem Tryz.strings_Cut (s sep : ByteArray) (m : Int) (w : World) (hs : s.size < 4294967281) (hm : w.cell? ⟨1,0,none⟩ = some (.int .i64 m)) :
    Calls Tryz.prog 41 #[.string s,.string sep] w fun e w' => e = .returned (.tuple #[.string ⟨(Lib.cut s.data.toList sep.data.toList).1.toArray⟩,.string ⟨(Lib.cut s.data.toList sep.data.toList).2.1.toArray⟩,.bool (Lib.cut s.data.toList sep.data.toList).2.2]) ∧ ∃ n,w' = w.drewN n:=Any.strings_Cut Tryz.lays145 s sep m w hs hm
def Tryz.laysM145_ren : Go.Shelf.Ren:=⟨fun | 145 => 41 | 220 => 70 | 219 => 114 | 217 => 160 | 225 => 161 | 224 => 162 | 267 => 163 | 266 => 197 | 314 => 198 | n => n,fun | 9 => 9 | 4 => 4 | 59 => 90 | 3 => 3 | 5 => 5 | 46 => 142 | 146 => 228 | 51 => 227 | n => n,fun | 1 => 1 | n => n⟩
theorem Tryz.laysM145 : Go.Proofs.LaysM.n145 Tryz.prog Tryz.laysM145_ren:={
  mixed:=by kernel_rfl
  f145:=Tryz.func41.trans (congrArg some (by kernel_rfl))
  f217:=Tryz.func160.trans (congrArg some (by kernel_rfl))
  f219:=Tryz.func114.trans (congrArg some (by kernel_rfl))
  f220:=Tryz.func70.trans (congrArg some (by kernel_rfl))
  f224:=Tryz.func162.trans (congrArg some (by kernel_rfl))
  f225:=Tryz.func161.trans (congrArg some (by kernel_rfl))
  f266:=Tryz.func197.trans (congrArg some (by kernel_rfl))
  f267:=Tryz.func163.trans (congrArg some (by kernel_rfl))
  f314:=Tryz.func198.trans (congrArg some (by kernel_rfl))
  t3:=Tryz.underlying3
  a3:=Tryz.isAgg3
  z3:=Tryz.sizeOf3
  v3:=Tryz.zeroValue3
  t4:=Tryz.underlying4
  a4:=Tryz.isAgg4
  z4:=Tryz.sizeOf4
  v4:=Tryz.zeroValue4
  t5:=Tryz.underlying5
  a5:=Tryz.isAgg5
  z5:=Tryz.sizeOf5
  v5:=Tryz.zeroValue5
  t9:=Tryz.underlying9
  a9:=Tryz.isAgg9
  z9:=Tryz.sizeOf9
  v9:=Tryz.zeroValue9
  t46:=Tryz.underlying142
  a46:=Tryz.isAgg142
  z46:=Tryz.sizeOf142
  v46:=Tryz.zeroValue142
  t51:=Tryz.underlying227
  a51:=Tryz.isAgg227
  z51:=Tryz.sizeOf227
  v51:=Tryz.zeroValue227
  t59:=Tryz.underlying90
  a59:=Tryz.isAgg90
  z59:=Tryz.sizeOf90
  v59:=Tryz.zeroValue90
  t146:=Tryz.underlying228
  a146:=Tryz.isAgg228
  z146:=Tryz.sizeOf228
  v146:=Tryz.zeroValue228
  g1:=by kernel_rfl
  i3:=by kernel_rfl
  i4:=by kernel_rfl
  i5:=by kernel_rfl
  i9:=by kernel_rfl
  i46:=by kernel_rfl
  i51:=by kernel_rfl
  i59:=by kernel_rfl
  i146:=by kernel_rfl
  m1:=by kernel_rfl
  s1_3:=fun w h => Go.Proofs.cell_of_shapedOpen_int (zero:=#[.int .i64 0]) (t:=3) h (of_decide_eq_true (by kernel_rfl)) (by kernel_rfl) rfl (by kernel_rfl) (by kernel_rfl) Tryz.underlying3 }
def Tryz.lays146_ren : Go.Shelf.Ren:=⟨fun | 146 => 71 | 221 => 115 | 268 => 164 | 138 => 138 | 143 => 139 | 195 => 189 | 197 => 140 | 218 => 190 | 219 => 114 | 260 => 191 | 217 => 160 | 225 => 161 | 224 => 162 | 267 => 163 | 266 => 197 | 314 => 198 | n => n,fun | 9 => 9 | 31 => 63 | 3 => 3 | 4 => 4 | 0 => 0 | 105 => 179 | 21 => 21 | 5 => 5 | 46 => 142 | 119 => 249 | 139 => 252 | 138 => 251 | 146 => 228 | 51 => 227 | n => n,fun | 1 => 1 | 3 => 4 | 4 => 5 | n => n⟩
theorem Tryz.lays146 : Go.Proofs.Lays.n146 Tryz.prog Tryz.lays146_ren:={
  mixed:=by kernel_rfl
  f138:=Tryz.func138.trans (congrArg some (by kernel_rfl))
  f143:=Tryz.func139.trans (congrArg some (by kernel_rfl))
  f146:=Tryz.func71.trans (congrArg some (by kernel_rfl))
  f195:=Tryz.func189.trans (congrArg some (by kernel_rfl))
  f197:=Tryz.func140.trans (congrArg some (by kernel_rfl))
  f217:=Tryz.func160.trans (congrArg some (by kernel_rfl))
  f218:=Tryz.func190.trans (congrArg some (by kernel_rfl))
  f219:=Tryz.func114.trans (congrArg some (by kernel_rfl))
  f221:=Tryz.func115.trans (congrArg some (by kernel_rfl))
  f224:=Tryz.func162.trans (congrArg some (by kernel_rfl))
  f225:=Tryz.func161.trans (congrArg some (by kernel_rfl))
  f260:=Tryz.func191.trans (congrArg some (by kernel_rfl))
  f266:=Tryz.func197.trans (congrArg some (by kernel_rfl))
  f267:=Tryz.func163.trans (congrArg some (by kernel_rfl))
  f268:=Tryz.func164.trans (congrArg some (by kernel_rfl))
  f314:=Tryz.func198.trans (congrArg some (by kernel_rfl))
  t0:=Tryz.underlying0
  a0:=Tryz.isAgg0
  z0:=Tryz.sizeOf0
  v0:=Tryz.zeroValue0
  t3:=Tryz.underlying3
  a3:=Tryz.isAgg3
  z3:=Tryz.sizeOf3
  v3:=Tryz.zeroValue3
  t4:=Tryz.underlying4
  a4:=Tryz.isAgg4
  z4:=Tryz.sizeOf4
  v4:=Tryz.zeroValue4
  t5:=Tryz.underlying5
  a5:=Tryz.isAgg5
  z5:=Tryz.sizeOf5
  v5:=Tryz.zeroValue5
  t9:=Tryz.underlying9
  a9:=Tryz.isAgg9
  z9:=Tryz.sizeOf9
  v9:=Tryz.zeroValue9
  t21:=Tryz.underlying21
  a21:=Tryz.isAgg21
  z21:=Tryz.sizeOf21
  v21:=Tryz.zeroValue21
  t31:=Tryz.underlying63
  a31:=Tryz.isAgg63
  z31:=Tryz.sizeOf63
  v31:=Tryz.zeroValue63
  t46:=Tryz.underlying142
  a46:=Tryz.isAgg142
  z46:=Tryz.sizeOf142
  v46:=Tryz.zeroValue142
  t51:=Tryz.underlying227
  a51:=Tryz.isAgg227
  z51:=Tryz.sizeOf227
  v51:=Tryz.zeroValue227
  t105:=Tryz.underlying179
  a105:=Tryz.isAgg179
  z105:=Tryz.sizeOf179
  v105:=Tryz.zeroValue179
  t119:=Tryz.underlying249
  a119:=Tryz.isAgg249
  z119:=Tryz.sizeOf249
  t138:=Tryz.underlying251
  a138:=Tryz.isAgg251
  z138:=Tryz.sizeOf251
  v138:=Tryz.zeroValue251
  t139:=Tryz.underlying252
  a139:=Tryz.isAgg252
  z139:=Tryz.sizeOf252
  v139:=Tryz.zeroValue252
  t146:=Tryz.underlying228
  a146:=Tryz.isAgg228
  z146:=Tryz.sizeOf228
  v146:=Tryz.zeroValue228
  g1:=by kernel_rfl
  g3:=by kernel_rfl
  g4:=by kernel_rfl }
open Go.RowKit Go.Lib in
theorem Tryz.strings_Split (s sep : ByteArray) (m : Int) (w : World) (hs : s.size < 4294967281) (hm : w.cell? ⟨1,0,none⟩ = some (.int .i64 m)) (h1 : 1 ≤ sep.size) :
    Calls Tryz.prog 71 #[.string s,.string sep] w fun e w' =>
      e = .returned (.slice (some ⟨w.heap.size,0,none⟩) (Lib.countB s sep + 1) (Lib.countB s sep + 1)) ∧ w' = w.alloc (.cells ((Lib.splitB sep 0 (Lib.countB s sep) s).map Value.string).toArray 9):=Any.strings_Split Tryz.lays146 (by kernel_rfl) s sep m w hs hm h1
def Tryz.lays155_ren : Go.Shelf.Ren:=⟨fun | 155 => 52 | 154 => 98 | 138 => 138 | 165 => 105 | 143 => 139 | 166 => 45 | 197 => 140 | 169 => 47 | 195 => 189 | 218 => 190 | 240 => 89 | 241 => 151 | 219 => 114 | 260 => 191 | 276 => 135 | 277 => 193 | 217 => 160 | 225 => 161 | 224 => 162 | 267 => 163 | 266 => 197 | 314 => 198 | n => n,fun | 9 => 9 | 3 => 3 | 4 => 4 | 72 => 97 | 0 => 0 | 76 => 103 | 105 => 179 | 21 => 21 | 5 => 5 | 70 => 94 | 20 => 20 | 37 => 95 | 75 => 102 | 127 => 133 | 164 => 175 | 46 => 142 | 119 => 249 | 139 => 252 | 138 => 251 | 146 => 228 | 51 => 227 | 80 => 106 | n => n,fun | 1 => 1 | 3 => 4 | 4 => 5 | n => n⟩
theorem Tryz.lays155 : Go.Proofs.Lays.n155 Tryz.prog Tryz.lays155_ren:={
  mixed:=by kernel_rfl
  f138:=Tryz.func138.trans (congrArg some (by kernel_rfl))
  f143:=Tryz.func139.trans (congrArg some (by kernel_rfl))
  f154:=Tryz.func98.trans (congrArg some (by kernel_rfl))
  f155:=Tryz.func52.trans (congrArg some (by kernel_rfl))
  f165:=Tryz.func105.trans (congrArg some (by kernel_rfl))
  f166:=Tryz.func45.trans (congrArg some (by kernel_rfl))
  f169:=Tryz.func47.trans (congrArg some (by kernel_rfl))
  f195:=Tryz.func189.trans (congrArg some (by kernel_rfl))
  f197:=Tryz.func140.trans (congrArg some (by kernel_rfl))
  f217:=Tryz.func160.trans (congrArg some (by kernel_rfl))
  f218:=Tryz.func190.trans (congrArg some (by kernel_rfl))
  f219:=Tryz.func114.trans (congrArg some (by kernel_rfl))
  f224:=Tryz.func162.trans (congrArg some (by kernel_rfl))
  f225:=Tryz.func161.trans (congrArg some (by kernel_rfl))
  f240:=Tryz.func89.trans (congrArg some (by kernel_rfl))
  f241:=Tryz.func151.trans (congrArg some (by kernel_rfl))
  f260:=Tryz.func191.trans (congrArg some (by kernel_rfl))
  f266:=Tryz.func197.trans (congrArg some (by kernel_rfl))
  f267:=Tryz.func163.trans (congrArg some (by kernel_rfl))
  f276:=Tryz.func135.trans (congrArg some (by kernel_rfl))
  f277:=Tryz.func193.trans (congrArg some (by kernel_rfl))
  f314:=Tryz.func198.trans (congrArg some (by kernel_rfl))
  t0:=Tryz.underlying0
  a0:=Tryz.isAgg0
  z0:=Tryz.sizeOf0
  v0:=Tryz.zeroValue0
  t3:=Tryz.underlying3
  a3:=Tryz.isAgg3
  z3:=Tryz.sizeOf3
  v3:=Tryz.zeroValue3
  t4:=Tryz.underlying4
  a4:=Tryz.isAgg4
  z4:=Tryz.sizeOf4
  v4:=Tryz.zeroValue4
  t5:=Tryz.underlying5
  a5:=Tryz.isAgg5
  z5:=Tryz.sizeOf5
  v5:=Tryz.zeroValue5
  t9:=Tryz.underlying9
  a9:=Tryz.isAgg9
  z9:=Tryz.sizeOf9
  v9:=Tryz.zeroValue9
  t20:=Tryz.underlying20
  a20:=Tryz.isAgg20
  z20:=Tryz.sizeOf20
  v20:=Tryz.zeroValue20
  t21:=Tryz.underlying21
  a21:=Tryz.isAgg21
  z21:=Tryz.sizeOf21
  v21:=Tryz.zeroValue21
  t37:=Tryz.underlying95
  a37:=Tryz.isAgg95
  z37:=Tryz.sizeOf95
  v37:=Tryz.zeroValue95
  t46:=Tryz.underlying142
  a46:=Tryz.isAgg142
  z46:=Tryz.sizeOf142
  v46:=Tryz.zeroValue142
  t51:=Tryz.underlying227
  a51:=Tryz.isAgg227
  z51:=Tryz.sizeOf227
  v51:=Tryz.zeroValue227
  t70:=Tryz.underlying94
  a70:=Tryz.isAgg94
  z70:=Tryz.sizeOf94
  v70:=Tryz.zeroValue94
  t72:=Tryz.underlying97
  a72:=Tryz.isAgg97
  z72:=Tryz.sizeOf97
  v72:=Tryz.zeroValue97
  t75:=Tryz.underlying102
  a75:=Tryz.isAgg102
  z75:=Tryz.sizeOf102
  v75:=Tryz.zeroValue102
  t76:=Tryz.underlying103
  a76:=Tryz.isAgg103
  z76:=Tryz.sizeOf103
  v76:=Tryz.zeroValue103
  t105:=Tryz.underlying179
  a105:=Tryz.isAgg179
  z105:=Tryz.sizeOf179
  v105:=Tryz.zeroValue179
  t119:=Tryz.underlying249
  a119:=Tryz.isAgg249
  z119:=Tryz.sizeOf249
  t127:=Tryz.underlying133
  a127:=Tryz.isAgg133
  z127:=Tryz.sizeOf133
  v127:=Tryz.zeroValue133
  t138:=Tryz.underlying251
  a138:=Tryz.isAgg251
  z138:=Tryz.sizeOf251
  v138:=Tryz.zeroValue251
  t139:=Tryz.underlying252
  a139:=Tryz.isAgg252
  z139:=Tryz.sizeOf252
  v139:=Tryz.zeroValue252
  t146:=Tryz.underlying228
  a146:=Tryz.isAgg228
  z146:=Tryz.sizeOf228
  v146:=Tryz.zeroValue228
  t164:=Tryz.underlying175
  a164:=Tryz.isAgg175
  z164:=Tryz.sizeOf175
  v164:=Tryz.zeroValue175
  g1:=by kernel_rfl
  g3:=by kernel_rfl
  g4:=by kernel_rfl }
theorem Tryz.Builder_Extra_155 : Builder.Extra Tryz.prog Tryz.lays155_ren:={
  sizeBuilder:=by kernel_rfl
  liesBuilder:=by kernel_rfl
  t5:=Tryz.underlying5
  a5:=Tryz.isAgg5
  z5:=Tryz.sizeOf5
  v5:=Tryz.zeroValue5
  infoByte:=by kernel_rfl
  cellsByte:=by kernel_rfl
  sizeByte:=by kernel_rfl
  neB5:=by decide }
open Go.RowKit Go.Lib in
theorem Tryz.strings_ReplaceAll (s old new : ByteArray) (m : Int) (w : World) (hs : s.size < 4294967281) (hm : w.cell? ⟨1,0,none⟩ = some (.int .i64 m)) (h1 : 1 ≤ old.size) (hlen : s.size + Lib.countB s old * new.size ≤ 140737488355328) :
    Calls Tryz.prog 52 #[.string s,.string old,.string new] w fun e w' =>
      e = .returned (.string ⟨(Lib.replaceAll s.data.toList old.data.toList new.data.toList).toArray⟩) ∧ Below w.heap.size w w':=Any.strings_ReplaceAll Tryz.lays155 Tryz.Builder_Extra_155 s old new m w hs hm h1 hlen
end Go.Proofs
