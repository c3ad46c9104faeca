/- Plain helpers of this claim: what a slice of numbers or of structs reads as, and how it is kept. No program stands here but by its name. DERIVED: THE SHELF's CONTRACTS AT THIS DUMP, IN PLAIN WORDS (tools/lay-plain.mjs out of 'TryzShelf.lean', which tools/lay-shelf.mjs wrote): THE SAME DECLARATIONS UNDER THE SAME NAMES: 'import', 'namespace', 'open', 'def', 'theorem' AND NOTHING ELSE: no command of the shelf's: FOR A HAND-IN. Each laying: the table of numbers ('.._ren') and one theorem, a field a fact of the dump's own or the kernel's comparison; each contract: ONE APPLICATION. Plain helpers: a list of facts that outlive every call, carried as one fact, beside a row of the call's own that grows. No program stands here. The contract of addr.Valid. One byte made a string: string([]byte{b}). -/
import Derived.Test.YtdplcdhpnmcdjaaGreatDoorRows
import Derived.WalkKit
import Derived.WalkSpells
import Derived.WalkLawsBesides
import Derived.Lib.Hide
import Derived.Deep.Slices
import Derived.Deep.Fields
import Derived.ChangeSame
import Derived.Lib.LaidTab
import Derived.Laws.OwnMore
import Derived.Deep.Draws
import Derived.Laws.Rows
import Derived.Deep.OwnRows
import Derived.Shelf.Strings.Builder1
import Derived.Shelf.Strings.Builder2
import Derived.Shelf.Strings.OnBuilder
import Derived.Shelf.Small.Wraps
import Derived.Shelf.Strings.BuilderF
import Derived.Shelf.Strings.BuilderK
import Derived.Shelf.Utf8.RuneCount
import Derived.Shelf.Strings.Builder2Cap
import Derived.Shelf.Strconv.Itoa0
import Derived.Shelf.Strconv.Itoa1
import Derived.Shelf.LaysM
import Derived.Shelf.Strconv.Itoa2
import Derived.Shelf.Strconv.Itoa3
import Derived.Shelf.Strings.Search1
import Derived.Shelf.Strings.Search2
import Derived.Shelf.Strings.Search3
import Derived.Shelf.Strings.Count
import Derived.Shelf.Strings.Shaped
import Derived.Shelf.GgClosure.StringsIndexFunc
import Derived.Ground.GgwProg
import Derived.Shelf.GgClosure.StringsIndexFuncTop
import Derived.Shelf.GgClosure.StringsRunes
import Derived.Shelf.Strings.Prefix
import Derived.Shelf.Strings.Split
import Derived.Shelf.Strings.Replace
import Derived.Shelf.Strings.SplitShaped
import Derived.Shelf.Unicode.Decode
import Derived.Shelf.Strings.RuneCount
import Derived.Shelf.Bits.Mul64
import Derived.Shelf.Strings.Repeat
import Derived.Shelf.Unicode.DecodeSlow
import Derived.Shelf.Unicode.DecodeAny
import Derived.Shelf.Strings.FuncGrows
import Derived.Shelf.Strings.BuilderCap
import Derived.Shelf.Slices.Turned
import Derived.Test.YtdplcdhpnmcdjaaGreatDoorProg
import Derived.Deep.RegionHeld3
import Derived.Deep.AppendLies
import Derived.Deep.Onto
namespace Go.Proofs.YtdplcdhpnmcdjaaGreatDoor
open Go.RowKit
theorem block_add (a:Addr) (n:Nat):(a.add n).block=a.block:=by unfold Addr.add; split <;> rfl
theorem add_add (a:Addr) (i j:Nat):(a.add i).add j=a.add (i+j):=by
 unfold Addr.add
 by_cases hi:i=0 <;> by_cases hj:j=0 <;> simp [hi,hj,Nat.add_assoc]
theorem al {w W W':World} (h:Below w.heap.size w W) (k:Below W.heap.size W W'):Below w.heap.size w W':=h.trans (k.mono h.size)
theorem bn {W W':World} {p:Addr} {v:Value} (k:Below W.heap.size W W') (h:W.cell? p=some v):W'.cell? p=some v:=(k.cell (World.block_lt_of_cell? W p h)).trans h
theorem yN (x:Nat):((x:Int) == 0)=(x == 0):=by rw [Bool.eq_iff_iff]; simp
def jc (s:Nat) (w:World) (B:Nat) (a:Option Addr) (n:Nat) (g:Nat→Nat→Value):Prop :=
 0<n→∃ ad,a=some ad∧ad.block<B∧∀ i j,i<n→j<s→w.cell? (ad.add (i * s+j))=some (g i j)
def jb (k:IntKind) (w:World) (B:Nat) (a:Option Addr) (n:Nat) (f:Nat→Int):Prop :=
 0<n→∃ ad,a=some ad∧ad.block<B∧∀ i,i<n→w.cell? (ad.add i)=some (.int k (f i))
def kZ (k:IntKind) (w:World) (B:Nat) (a:Option Addr) (n:Nat) (f:Nat→Nat):Prop :=
 0<n→∃ ad,a=some ad∧ad.block<B∧∀ i,i<n→w.cell? (ad.add i)=some (.int k (f i:Nat))
section
variable {w w':World} {B B' n s:Nat} {a:Option Addr} {k:IntKind}
theorem kZ.below {f:Nat→Nat} (h:kZ k w B a n f) (hb:Below B w w') (hB:B≤B'):kZ k w' B' a n f:=by
 intro hn
 obtain ⟨ad,e,h1,h2⟩:=h hn
 exact ⟨ad,e,by omega,fun i hi=>(hb.cell (by rw [block_add]; exact h1)).trans (h2 i hi)⟩
theorem jb.below {f:Nat→Int} (h:jb k w B a n f) (hb:Below B w w') (hB:B≤B'):jb k w' B' a n f:=by
 intro hn
 obtain ⟨ad,e,h1,h2⟩:=h hn
 exact ⟨ad,e,by omega,fun i hi=>(hb.cell (by rw [block_add]; exact h1)).trans (h2 i hi)⟩
theorem jc.below {g:Nat→Nat→Value} (h:jc s w B a n g) (hb:Below B w w') (hB:B≤B'):jc s w' B' a n g:=by
 intro hn
 obtain ⟨ad,e,h1,h2⟩:=h hn
 exact ⟨ad,e,by omega,fun i j hi hj=>(hb.cell (by rw [block_add]; exact h1)).trans (h2 i j hi hj)⟩
end
theorem kJ {a w:World} {row:Option Nat} (h:a.grownBy w row):a.grownBy w.drew row:=⟨h.os,h.tape,h.output,h.size,h.block⟩
theorem eO {a w:World} {g:Nat} (h:a.grownBy w (some g)) {p:Addr} (hp:p.block=g∨a.heap.size≤p.block) (u:Value):a.grownBy (w.setCell p u) (some g) :=
 ⟨h.os,h.tape,h.output,by simpa [World.setCell] using h.size,fun i hi hne=>(Below.heap_setCell w p u i (by
  rintro rfl
  rcases hp with hp | hp
  ·exact hne (by rw [hp])
  omega)).trans (h.block i hi hne)⟩
theorem gk {a w:World} (h:Below a.heap.size a w) (row:Option Nat):a.grownBy w row:=⟨h.os,h.tape,h.output,h.size,fun i hi _=>h.block i hi⟩
def Blk (w:World) (g:Nat) (t:TypeId) (cs:Array Value):Prop:=w.heap[g]?=some (.cells cs t (0,0))
section
variable {w w':World} {g:Nat} {t:TypeId} {cs:Array Value}
theorem Blk.lt (h:Blk w g t cs):g<w.heap.size:=by
 rcases Nat.lt_or_ge g w.heap.size with hlt | hge
 ·exact hlt
 unfold Blk at h; rw [Array.getElem?_eq_none hge] at h; cases h
theorem Blk.cell (h:Blk w g t cs) (i:Nat):w.cell? ⟨g,i,none⟩=cs[i]?:=cell_of_row w g i cs t (0,0) h
theorem Blk.frozen (h:Blk w g t cs) (i:Nat):w.frozen? ⟨g,i,none⟩=false:=by
 unfold Blk at h
 simp [World.frozen?,h]
theorem Blk.new (w:World) (t:TypeId) (cs:Array Value):Blk (w.alloc (.cells cs t)) w.heap.size t cs:=heap_alloc_new w _
theorem Blk.drew (h:Blk w g t cs):Blk w.drew g t cs:=h
theorem Blk.drewN (h:Blk w g t cs) (n:Nat):Blk (w.drewN n) g t cs:=h
theorem Blk.alloc (h:Blk w g t cs) (o:Obj):Blk (w.alloc o) g t cs:=(Below.heap_alloc w o g h.lt).trans h
theorem Blk.set_ (h:Blk w g t cs) (i:Nat) (u:Value):Blk (w.setCell ⟨g,i,none⟩ u) g t (cs.setIfInBounds i u):=by
 unfold Blk at h ⊢
 simp [World.setCell,Array.getElem?_modify,h]
theorem Blk.far (h:Blk w g t cs) {p:Addr} (hp:g≠p.block) (u:Value):Blk (w.setCell p u) g t cs:=(Below.heap_setCell w p u g hp).trans h
theorem Blk.below {B:Nat} (h:Blk w g t cs) (hb:Below B w w') (hg:g<B):Blk w' g t cs:=(hb.block g hg).trans h
theorem Blk.grown {row:Option Nat} (h:Blk w g t cs) (hb:w.grownBy w' row) (hg:some g≠row):Blk w' g t cs:=(hb.block g h.lt hg).trans h
end
section
open Go.ChangeShapes Go.WideShapes Go.Deep
variable {H:Type} {enc:TypeId×Value→H} {P:Program} {w:World} {base:Nat} {spare:Nat→Bool} {held:Bool}
end
end Go.Proofs.YtdplcdhpnmcdjaaGreatDoor
namespace Go.Proofs
open Go.Shelf
def Tryz.lays170_ren:Go.Shelf.Ren:=⟨fun | 170=>102 | n=>n,fun | 70=>117 | 3=>3 | 0=>0 | 72=>119 | 37=>42 | 5=>5 | n=>n,fun | n=>n⟩
theorem Tryz.lays170:Go.Proofs.Lays.n170 Tryz.prog Tryz.lays170_ren:={
 mixed:=by kernel_rfl
 f170:=Tryz.func102.trans (congrArg some (by kernel_rfl))
 t0:=Tryz.underlying0
 a0:=Tryz.isAgg0
 z0:=Tryz.sizeOf0
 v0:=Tryz.zeroValue0
 t3:=Tryz.underlying3
 a3:=Tryz.isAgg3
 z3:=Tryz.sizeOf3
 v3:=Tryz.zeroValue3
 t37:=Tryz.underlying42
 a37:=Tryz.isAgg42
 z37:=Tryz.sizeOf42
 v37:=Tryz.zeroValue42
 t70:=Tryz.underlying117
 a70:=Tryz.isAgg117
 z70:=Tryz.sizeOf117
 v70:=Tryz.zeroValue117
 t72:=Tryz.underlying119
 a72:=Tryz.isAgg119
 z72:=Tryz.sizeOf119
 v72:=Tryz.zeroValue119 }
def Tryz.lays169_ren:Go.Shelf.Ren:=⟨fun | 169=>94 | n=>n,fun | 70=>117 | 9=>9 | 0=>0 | 72=>119 | 37=>42 | 127=>175 | 3=>3 | 5=>5 | n=>n,fun | n=>n⟩
theorem Tryz.lays169:Go.Proofs.Lays.n169 Tryz.prog Tryz.lays169_ren:={
 mixed:=by kernel_rfl
 f169:=Tryz.func94.trans (congrArg some (by kernel_rfl))
 t0:=Tryz.underlying0
 a0:=Tryz.isAgg0
 z0:=Tryz.sizeOf0
 v0:=Tryz.zeroValue0
 t3:=Tryz.underlying3
 a3:=Tryz.isAgg3
 z3:=Tryz.sizeOf3
 v3:=Tryz.zeroValue3
 t9:=Tryz.underlying9
 a9:=Tryz.isAgg9
 z9:=Tryz.sizeOf9
 v9:=Tryz.zeroValue9
 t37:=Tryz.underlying42
 a37:=Tryz.isAgg42
 z37:=Tryz.sizeOf42
 v37:=Tryz.zeroValue42
 t70:=Tryz.underlying117
 a70:=Tryz.isAgg117
 z70:=Tryz.sizeOf117
 v70:=Tryz.zeroValue117
 t72:=Tryz.underlying119
 a72:=Tryz.isAgg119
 z72:=Tryz.sizeOf119
 v72:=Tryz.zeroValue119
 t127:=Tryz.underlying175
 a127:=Tryz.isAgg175
 z127:=Tryz.sizeOf175
 v127:=Tryz.zeroValue175 }
theorem Tryz.Builder_Extra_169:Builder.Extra Tryz.prog Tryz.lays169_ren:={
 sizeBuilder:=by kernel_rfl
 liesBuilder:=by kernel_rfl
 t5:=Tryz.underlying5
 a5:=Tryz.isAgg5
 z5:=Tryz.sizeOf5
 v5:=Tryz.zeroValue5
 infoByte:=by kernel_rfl
 cellsByte:=by kernel_rfl
 sizeByte:=by kernel_rfl
 neB5:=by decide }
def Tryz.lays103_ren:Go.Shelf.Ren:=⟨fun | 103=>72 | 210=>115 | 206=>154 | n=>n,fun | 9=>9 | 4=>4 | 24=>102 | 3=>3 | n=>n,fun | n=>n⟩
theorem Tryz.lays103:Go.Proofs.Lays.n103 Tryz.prog Tryz.lays103_ren:={
 mixed:=by kernel_rfl
 f103:=Tryz.func72.trans (congrArg some (by kernel_rfl))
 f206:=Tryz.func154.trans (congrArg some (by kernel_rfl))
 f210:=Tryz.func115.trans (congrArg some (by kernel_rfl))
 t3:=Tryz.underlying3
 a3:=Tryz.isAgg3
 z3:=Tryz.sizeOf3
 v3:=Tryz.zeroValue3
 t4:=Tryz.underlying4
 a4:=Tryz.isAgg4
 z4:=Tryz.sizeOf4
 v4:=Tryz.zeroValue4
 t9:=Tryz.underlying9
 a9:=Tryz.isAgg9
 z9:=Tryz.sizeOf9
 v9:=Tryz.zeroValue9
 t24:=Tryz.underlying102
 a24:=Tryz.isAgg102
 z24:=Tryz.sizeOf102
 v24:=Tryz.zeroValue102 }
open Go.RowKit in
theorem Tryz.strings_CutPrefix (s p:ByteArray) (w:World) :
  Calls Tryz.prog 72 #[.string s,.string p] w fun e w'=>e=.returned (.tuple #[.string ⟨(Lib.trimPrefix s.data.toList p.data.toList).toArray⟩,.bool (Lib.hasPrefix s.data.toList p.data.toList)])∧w'=w:=Any.strings_CutPrefix Tryz.lays103 s p w
open Go.RowKit in
theorem Tryz.Builder_Len_f (B b:Nat) (bs:List Value) (w:World) (h:Lib.IsBuilderF 119 5 B b bs w) :
  Calls Tryz.prog 102 #[.pointer (some ⟨b,0,none⟩)] w fun e w'=>e=.returned (.int .i64 bs.length)∧w'=w:=Any.Builder_Len_f Tryz.lays170 B b bs w h
open Go.RowKit in
theorem Tryz.Builder_String_any_f (B b:Nat) (l:List UInt8) (w:World) (h:Lib.IsBuilderF 119 5 B b (Lib.byteCells l) w) (hBw:B≤w.heap.size) :
  Calls Tryz.prog 94 #[.pointer (some ⟨b,0,none⟩)] w fun e w'=>e=.returned (.string ⟨l.toArray⟩)∧(Lib.IsBuilderF 119 5 B b (Lib.byteCells l) w'∧Below B w w'):=Any.Builder_String_any_f Tryz.lays169 Tryz.Builder_Extra_169 B b l w h hBw
def Tryz.laysM171_ren:Go.Shelf.Ren:=⟨fun | 171=>189 | 243=>210 | 246=>228 | 283=>241 | 284=>242 | 285=>243 | 286=>244 | 129=>253 | 317=>252 | 318=>254 | 319=>255 | 320=>256 | 337=>262 | 338=>263 | n=>n,fun | 3=>3 | 9=>9 | 2=>2 | 4=>4 | 171=>250 | 0=>0 | 53=>143 | 37=>42 | 5=>5 | 173=>253 | 212=>260 | 51=>178 | 20=>20 | 213=>261 | 46=>104 | 232=>267 | 233=>268 | n=>n,fun | 17=>4 | 18=>5 | 19=>6 | n=>n⟩
theorem Tryz.laysM171:Go.Proofs.LaysM.n171 Tryz.prog Tryz.laysM171_ren:={
 mixed:=by kernel_rfl
 f129:=Tryz.func253.trans (congrArg some (by kernel_rfl))
 f171:=Tryz.func189.trans (congrArg some (by kernel_rfl))
 f243:=Tryz.func210.trans (congrArg some (by kernel_rfl))
 f246:=Tryz.func228.trans (congrArg some (by kernel_rfl))
 f283:=Tryz.func241.trans (congrArg some (by kernel_rfl))
 f284:=Tryz.func242.trans (congrArg some (by kernel_rfl))
 f285:=Tryz.func243.trans (congrArg some (by kernel_rfl))
 f286:=Tryz.func244.trans (congrArg some (by kernel_rfl))
 f317:=Tryz.func252.trans (congrArg some (by kernel_rfl))
 f318:=Tryz.func254.trans (congrArg some (by kernel_rfl))
 f319:=Tryz.func255.trans (congrArg some (by kernel_rfl))
 f320:=Tryz.func256.trans (congrArg some (by kernel_rfl))
 f337:=Tryz.func262.trans (congrArg some (by kernel_rfl))
 f338:=Tryz.func263.trans (congrArg some (by kernel_rfl))
 t0:=Tryz.underlying0
 a0:=Tryz.isAgg0
 z0:=Tryz.sizeOf0
 v0:=Tryz.zeroValue0
 t2:=Tryz.underlying2
 a2:=Tryz.isAgg2
 z2:=Tryz.sizeOf2
 v2:=Tryz.zeroValue2
 t3:=Tryz.underlying3
 a3:=Tryz.isAgg3
 z3:=Tryz.sizeOf3
 v3:=Tryz.zeroValue3
 t4:=Tryz.underlying4
 a4:=Tryz.isAgg4
 z4:=Tryz.sizeOf4
 v4:=Tryz.zeroValue4
 t5:=Tryz.underlying5
 a5:=Tryz.isAgg5
 z5:=Tryz.sizeOf5
 v5:=Tryz.zeroValue5
 t9:=Tryz.underlying9
 a9:=Tryz.isAgg9
 z9:=Tryz.sizeOf9
 v9:=Tryz.zeroValue9
 t20:=Tryz.underlying20
 a20:=Tryz.isAgg20
 z20:=Tryz.sizeOf20
 v20:=Tryz.zeroValue20
 t37:=Tryz.underlying42
 a37:=Tryz.isAgg42
 z37:=Tryz.sizeOf42
 v37:=Tryz.zeroValue42
 t46:=Tryz.underlying104
 a46:=Tryz.isAgg104
 z46:=Tryz.sizeOf104
 v46:=Tryz.zeroValue104
 t51:=Tryz.underlying178
 a51:=Tryz.isAgg178
 z51:=Tryz.sizeOf178
 v51:=Tryz.zeroValue178
 t53:=Tryz.underlying143
 a53:=Tryz.isAgg143
 z53:=Tryz.sizeOf143
 v53:=Tryz.zeroValue143
 t171:=Tryz.underlying250
 a171:=Tryz.isAgg250
 z171:=Tryz.sizeOf250
 v171:=Tryz.zeroValue250
 t173:=Tryz.underlying253
 a173:=Tryz.isAgg253
 z173:=Tryz.sizeOf253
 v173:=Tryz.zeroValue253
 t212:=Tryz.underlying260
 a212:=Tryz.isAgg260
 z212:=Tryz.sizeOf260
 v212:=Tryz.zeroValue260
 t213:=Tryz.underlying261
 a213:=Tryz.isAgg261
 z213:=Tryz.sizeOf261
 t232:=Tryz.underlying267
 a232:=Tryz.isAgg267
 z232:=Tryz.sizeOf267
 v232:=Tryz.zeroValue267
 t233:=Tryz.underlying268
 a233:=Tryz.isAgg268
 z233:=Tryz.sizeOf268
 v233:=Tryz.zeroValue268
 g17:=by kernel_rfl
 g18:=by kernel_rfl
 g19:=by kernel_rfl
 i0:=by kernel_rfl
 i2:=by kernel_rfl
 i3:=by kernel_rfl
 i4:=by kernel_rfl
 i5:=by kernel_rfl
 i9:=by kernel_rfl
 i20:=by kernel_rfl
 i37:=by kernel_rfl
 i46:=by kernel_rfl
 i51:=by kernel_rfl
 i53:=by kernel_rfl
 i171:=by kernel_rfl
 i173:=by kernel_rfl
 i212:=by kernel_rfl
 i232:=by kernel_rfl
 i233:=by kernel_rfl
 m17:=by kernel_rfl
 m18:=by kernel_rfl
 m19:=by kernel_rfl }
open Go.RowKit Go.Sort Go.Lib in
theorem Tryz.strconv_Itoa (n : Int) (h0 : -9223372036854775808 ≤ n) (h1 : n ≤ 9223372036854775807) (w : World) (htab : Lib.TabIs Tryz.prog w "internal/strconv.uint64pow10" .u64 Lib.pow10Tab) :
  Calls Tryz.prog 189 #[.int .i64 n] w fun e w'=>e=.returned (.string ⟨(Lib.itoa n).toArray⟩)∧∃ k os,w'=grow (w.drewN k) os:=Any.strconv_Itoa Tryz.laysM171 n h0 h1 w htab
def Tryz.laysM143_ren:Go.Shelf.Ren:=⟨fun | 143=>203 | 219=>219 | 217=>232 | 225=>233 | 224=>234 | 267=>235 | 266=>247 | 314=>248 | n=>n,fun | 9=>9 | 3=>3 | 4=>4 | 5=>5 | 46=>104 | 146=>179 | 51=>178 | n=>n,fun | 1=>1 | n=>n⟩
theorem Tryz.laysM143:Go.Proofs.LaysM.n143 Tryz.prog Tryz.laysM143_ren:={
 mixed:=by kernel_rfl
 f143:=Tryz.func203.trans (congrArg some (by kernel_rfl))
 f217:=Tryz.func232.trans (congrArg some (by kernel_rfl))
 f219:=Tryz.func219.trans (congrArg some (by kernel_rfl))
 f224:=Tryz.func234.trans (congrArg some (by kernel_rfl))
 f225:=Tryz.func233.trans (congrArg some (by kernel_rfl))
 f266:=Tryz.func247.trans (congrArg some (by kernel_rfl))
 f267:=Tryz.func235.trans (congrArg some (by kernel_rfl))
 f314:=Tryz.func248.trans (congrArg some (by kernel_rfl))
 t3:=Tryz.underlying3
 a3:=Tryz.isAgg3
 z3:=Tryz.sizeOf3
 v3:=Tryz.zeroValue3
 t4:=Tryz.underlying4
 a4:=Tryz.isAgg4
 z4:=Tryz.sizeOf4
 v4:=Tryz.zeroValue4
 t5:=Tryz.underlying5
 a5:=Tryz.isAgg5
 z5:=Tryz.sizeOf5
 v5:=Tryz.zeroValue5
 t9:=Tryz.underlying9
 a9:=Tryz.isAgg9
 z9:=Tryz.sizeOf9
 v9:=Tryz.zeroValue9
 t46:=Tryz.underlying104
 a46:=Tryz.isAgg104
 z46:=Tryz.sizeOf104
 v46:=Tryz.zeroValue104
 t51:=Tryz.underlying178
 a51:=Tryz.isAgg178
 z51:=Tryz.sizeOf178
 v51:=Tryz.zeroValue178
 t146:=Tryz.underlying179
 a146:=Tryz.isAgg179
 z146:=Tryz.sizeOf179
 v146:=Tryz.zeroValue179
 g1:=by kernel_rfl
 i3:=by kernel_rfl
 i4:=by kernel_rfl
 i5:=by kernel_rfl
 i9:=by kernel_rfl
 i46:=by kernel_rfl
 i51:=by kernel_rfl
 i146:=by kernel_rfl
 m1:=by kernel_rfl
 s1_3:=fun w h=>Go.Proofs.cell_of_shapedOpen_int (zero:=#[.int .i64 0]) (t:=3) h (of_decide_eq_true (by kernel_rfl)) (by kernel_rfl) rfl (by kernel_rfl) (by kernel_rfl) Tryz.underlying3 }
def Tryz.lays99_ren:Go.Shelf.Ren:=⟨fun | 99=>101 | 206=>154 | n=>n,fun | 9=>9 | 4=>4 | 3=>3 | n=>n,fun | n=>n⟩
theorem Tryz.lays99:Go.Proofs.Lays.n99 Tryz.prog Tryz.lays99_ren:={
 mixed:=by kernel_rfl
 f99:=Tryz.func101.trans (congrArg some (by kernel_rfl))
 f206:=Tryz.func154.trans (congrArg some (by kernel_rfl))
 t3:=Tryz.underlying3
 a3:=Tryz.isAgg3
 z3:=Tryz.sizeOf3
 v3:=Tryz.zeroValue3
 t4:=Tryz.underlying4
 a4:=Tryz.isAgg4
 z4:=Tryz.sizeOf4
 v4:=Tryz.zeroValue4
 t9:=Tryz.underlying9
 a9:=Tryz.isAgg9
 z9:=Tryz.sizeOf9
 v9:=Tryz.zeroValue9 }
open Go.RowKit Go.Lib in
theorem Tryz.strings_HasPrefix (s p:ByteArray) (w:World) :
  Calls Tryz.prog 101 #[.string s,.string p] w fun e w'=>e=.returned (.bool (Lib.hasPrefix s.data.toList p.data.toList))∧w'=w:=Any.strings_HasPrefix Tryz.lays99 s p w
def Tryz.lays155_ren:Go.Shelf.Ren:=⟨fun | 155=>111 | 154=>171 | 138=>202 | 165=>92 | 143=>203 | 166=>93 | 197=>204 | 169=>94 | 195=>217 | 218=>218 | 240=>145 | 241=>146 | 219=>219 | 260=>220 | 276=>190 | 277=>191 | 217=>232 | 225=>233 | 224=>234 | 267=>235 | 266=>247 | 314=>248 | n=>n,fun | 9=>9 | 3=>3 | 4=>4 | 72=>119 | 0=>0 | 76=>123 | 105=>226 | 21=>21 | 5=>5 | 70=>117 | 20=>20 | 37=>42 | 75=>122 | 127=>175 | 164=>211 | 46=>104 | 119=>243 | 139=>246 | 138=>245 | 146=>179 | 51=>178 | 80=>125 | n=>n,fun | 1=>1 | 3=>2 | 4=>3 | n=>n⟩
theorem Tryz.lays155:Go.Proofs.Lays.n155 Tryz.prog Tryz.lays155_ren:={
 mixed:=by kernel_rfl
 f138:=Tryz.func202.trans (congrArg some (by kernel_rfl))
 f143:=Tryz.func203.trans (congrArg some (by kernel_rfl))
 f154:=Tryz.func171.trans (congrArg some (by kernel_rfl))
 f155:=Tryz.func111.trans (congrArg some (by kernel_rfl))
 f165:=Tryz.func92.trans (congrArg some (by kernel_rfl))
 f166:=Tryz.func93.trans (congrArg some (by kernel_rfl))
 f169:=Tryz.func94.trans (congrArg some (by kernel_rfl))
 f195:=Tryz.func217.trans (congrArg some (by kernel_rfl))
 f197:=Tryz.func204.trans (congrArg some (by kernel_rfl))
 f217:=Tryz.func232.trans (congrArg some (by kernel_rfl))
 f218:=Tryz.func218.trans (congrArg some (by kernel_rfl))
 f219:=Tryz.func219.trans (congrArg some (by kernel_rfl))
 f224:=Tryz.func234.trans (congrArg some (by kernel_rfl))
 f225:=Tryz.func233.trans (congrArg some (by kernel_rfl))
 f240:=Tryz.func145.trans (congrArg some (by kernel_rfl))
 f241:=Tryz.func146.trans (congrArg some (by kernel_rfl))
 f260:=Tryz.func220.trans (congrArg some (by kernel_rfl))
 f266:=Tryz.func247.trans (congrArg some (by kernel_rfl))
 f267:=Tryz.func235.trans (congrArg some (by kernel_rfl))
 f276:=Tryz.func190.trans (congrArg some (by kernel_rfl))
 f277:=Tryz.func191.trans (congrArg some (by kernel_rfl))
 f314:=Tryz.func248.trans (congrArg some (by kernel_rfl))
 t0:=Tryz.underlying0
 a0:=Tryz.isAgg0
 z0:=Tryz.sizeOf0
 v0:=Tryz.zeroValue0
 t3:=Tryz.underlying3
 a3:=Tryz.isAgg3
 z3:=Tryz.sizeOf3
 v3:=Tryz.zeroValue3
 t4:=Tryz.underlying4
 a4:=Tryz.isAgg4
 z4:=Tryz.sizeOf4
 v4:=Tryz.zeroValue4
 t5:=Tryz.underlying5
 a5:=Tryz.isAgg5
 z5:=Tryz.sizeOf5
 v5:=Tryz.zeroValue5
 t9:=Tryz.underlying9
 a9:=Tryz.isAgg9
 z9:=Tryz.sizeOf9
 v9:=Tryz.zeroValue9
 t20:=Tryz.underlying20
 a20:=Tryz.isAgg20
 z20:=Tryz.sizeOf20
 v20:=Tryz.zeroValue20
 t21:=Tryz.underlying21
 a21:=Tryz.isAgg21
 z21:=Tryz.sizeOf21
 v21:=Tryz.zeroValue21
 t37:=Tryz.underlying42
 a37:=Tryz.isAgg42
 z37:=Tryz.sizeOf42
 v37:=Tryz.zeroValue42
 t46:=Tryz.underlying104
 a46:=Tryz.isAgg104
 z46:=Tryz.sizeOf104
 v46:=Tryz.zeroValue104
 t51:=Tryz.underlying178
 a51:=Tryz.isAgg178
 z51:=Tryz.sizeOf178
 v51:=Tryz.zeroValue178
 t70:=Tryz.underlying117
 a70:=Tryz.isAgg117
 z70:=Tryz.sizeOf117
 v70:=Tryz.zeroValue117
 t72:=Tryz.underlying119
 a72:=Tryz.isAgg119
 z72:=Tryz.sizeOf119
 v72:=Tryz.zeroValue119
 t75:=Tryz.underlying122
 a75:=Tryz.isAgg122
 z75:=Tryz.sizeOf122
 v75:=Tryz.zeroValue122
 t76:=Tryz.underlying123
 a76:=Tryz.isAgg123
 z76:=Tryz.sizeOf123
 v76:=Tryz.zeroValue123
 t105:=Tryz.underlying226
 a105:=Tryz.isAgg226
 z105:=Tryz.sizeOf226
 v105:=Tryz.zeroValue226
 t119:=Tryz.underlying243
 a119:=Tryz.isAgg243
 z119:=Tryz.sizeOf243
 t127:=Tryz.underlying175
 a127:=Tryz.isAgg175
 z127:=Tryz.sizeOf175
 v127:=Tryz.zeroValue175
 t138:=Tryz.underlying245
 a138:=Tryz.isAgg245
 z138:=Tryz.sizeOf245
 v138:=Tryz.zeroValue245
 t139:=Tryz.underlying246
 a139:=Tryz.isAgg246
 z139:=Tryz.sizeOf246
 v139:=Tryz.zeroValue246
 t146:=Tryz.underlying179
 a146:=Tryz.isAgg179
 z146:=Tryz.sizeOf179
 v146:=Tryz.zeroValue179
 t164:=Tryz.underlying211
 a164:=Tryz.isAgg211
 z164:=Tryz.sizeOf211
 v164:=Tryz.zeroValue211
 g1:=by kernel_rfl
 g3:=by kernel_rfl
 g4:=by kernel_rfl }
theorem Tryz.Builder_Extra_155:Builder.Extra Tryz.prog Tryz.lays155_ren:={
 sizeBuilder:=by kernel_rfl
 liesBuilder:=by kernel_rfl
 t5:=Tryz.underlying5
 a5:=Tryz.isAgg5
 z5:=Tryz.sizeOf5
 v5:=Tryz.zeroValue5
 infoByte:=by kernel_rfl
 cellsByte:=by kernel_rfl
 sizeByte:=by kernel_rfl
 neB5:=by decide }
end Go.Proofs
namespace Go.Proofs.YtdplcdhpnmcdjaaGreatDoor
open Go.RowKit
def ao (p:Prop):Prop:=∃ _:Unit,p
theorem keep {p:Prop} (h:p):ao p:=⟨(),h⟩
theorem ao.out {p:Prop} (h:ao p):p:=h.elim fun _ h=>h
structure aS where
 p:World→Prop
 s:World→Prop
 far:Option Nat→Prop
 st:∀ (w w':World) (row:Option Nat),far row→w.grownBy w' row→p w→p w'
 vis:∀ w,p w→s w
 none_:far none
 new:∀ (w:World) (k:Nat),w.heap.size≤k→p w→far (some k)
def sees:List aS→World→Prop
 | [],_=>True
 | x::l,w=>x.s w∧sees l w
structure Ok (w0:World) (ps:List aS) (w:World):Prop where
 bel:Below w0.heap.size w0 w
 all:∀ x∈ps,x.p w
def aa (w:World) (b:Nat):Nat→List Value→Prop
 | _,[]=>True
 | i,v::vs=>w.cell? ⟨b,i,none⟩=some v∧aa w b (i+1) vs
theorem jk (w:World) (b:Nat) (t:TypeId) (cs:List Value) (h:Blk w b t cs.toArray):aa w b 0 cs:=by
 have key:∀ (l:List Value) (i:Nat),(∀ j v,l[j]?=some v→w.cell? ⟨b,i+j,none⟩=some v)→aa w b i l:=by
  intro l
  induction l with
  | nil=>intro i _; exact trivial
  | cons v vs ih =>
   intro i hl
   refine ⟨by simpa using hl 0 v rfl,ih (i+1) fun j u hu => ?_⟩
   have:=hl (j+1) u (by simpa using hu)
   rwa [show i+(j+1)=i+1+j from by omega] at this
 refine key cs 0 fun j v hv => ?_
 rw [Nat.zero_add,h.cell]
 simpa using hv
def ac (b:Nat) (t:TypeId) (cs:List Value):aS where
 p w:=Blk w b t cs.toArray
 s w:=b<w.heap.size∧aa w b 0 cs
 far row:=some b≠row
 st _ _ _ hr hb h:=h.grown hb hr
 vis w h:=⟨h.lt,jk w b t cs h⟩
 none_:=by simp
 new w k hk h:=by have:=h.lt; simp; omega
def af (b:Nat) (t:TypeId) (cs:List Value):aS where
 p w:=Blk w b t cs.toArray
 s w:=(b<w.heap.size∧∀ i,w.frozen? ⟨b,i,none⟩=false)∧aa w b 0 cs
 far row:=some b≠row
 st _ _ _ hr hb h:=h.grown hb hr
 vis w h:=⟨⟨h.lt,h.frozen⟩,jk w b t cs h⟩
 none_:=by simp
 new w k hk h:=by have:=h.lt; simp; omega
def ag (w:World) (b i:Nat):Nat→List Value→Prop
 | _,[]=>True
 | j,v::vs=>w.cell? ⟨b,i+j,none⟩=some v∧ag w b i (j+1) vs
def ae (b i:Nat) (cs:List Value):aS where
 p w:=b<w.heap.size∧ag w b i 0 cs
 s w:=b<w.heap.size∧ag w b i 0 cs
 far row:=some b≠row
 st w w' row hr hb h:=⟨Nat.lt_of_lt_of_le h.1 hb.size,by
  have key:∀ (l:List Value) (j:Nat),ag w b i j l→ag w' b i j l:=by
   intro l
   induction l with
   | nil=>intro _ _; exact trivial
   | cons v vs ih=>intro j hl; exact ⟨(World.cell?_of_block (hb.block b h.1 hr)).trans hl.1,ih _ hl.2⟩
  exact key cs 0 h.2⟩
 vis _ h:=h
 none_:=by simp
 new w k hk h:=by have:=h.1; simp; omega
def aZ (B:Nat) (e:TypeId) (size:Nat) (v:Value) (n:Nat) (xs:List Value):aS where
 p w:=w.ownsRow B e size v n xs
 s _:=True
 far row:=v.ownBlock=none∨v.ownBlock≠row
 st _ _ _ hr hb h:=h.kept hb hr
 vis _ _:=trivial
 none_:=by cases hv:v.ownBlock <;> simp
 new w k hk h:=by
  cases hv:v.ownBlock with
  | none=>exact .inl rfl
  | some g =>
   have:=(h.lt g hv).2
   exact .inr (by simp; omega)
section
variable {w0 w w':World} {ps:List aS}
theorem Ok.start (w:World):Ok w [] w:=⟨Below.refl _ _,fun _ h=>absurd h (by simp)⟩
theorem Ok.below (h:Ok w0 ps w) (hb:Below w.heap.size w w'):Ok w0 ps w' :=
 ⟨al h.bel hb,fun x hx=>x.st _ _ none x.none_ (gk hb none) (h.all x hx)⟩
theorem Ok.alloc_obj (h:Ok w0 ps w) (o:Obj):Ok w0 ps (w.alloc o):=h.below ((Below.refl _ _).alloc (Nat.le_refl _) o)
theorem Ok.add (h:Ok w0 ps w) (x:aS) (hx:x.p w):Ok w0 (x::ps) w :=
 ⟨h.bel,fun y hy=>by
  rcases List.mem_cons.1 hy with rfl | hy
  ·exact hx
  exact h.all y hy⟩
theorem Ok.alloc (h:Ok w0 ps w) (k:Nat) (t:TypeId) (cs:List Value) (hk:w.heap.size=k):Ok w0 (ac k t cs::ps) (w.alloc (.cells cs.toArray t)) :=
 (h.alloc_obj _).add _ (by subst hk; exact Blk.new w t cs.toArray)
theorem Ok.var (h:Ok w0 ps w) (k:Nat) (t:TypeId) (cs:List Value) (hk:w.heap.size=k):Ok w0 (af k t cs::ps) (w.alloc (.cells cs.toArray t)) :=
 (h.alloc_obj _).add _ (by subst hk; exact Blk.new w t cs.toArray)
theorem Ok.drew (h:Ok w0 ps w):Ok w0 ps w.drew:=h.below ((Below.refl _ _).drew)
theorem Ok.sees (h:Ok w0 ps w):sees ps w:=by
 have key:∀ l:List aS,(∀ x∈l,x.p w)→Go.Proofs.YtdplcdhpnmcdjaaGreatDoor.sees l w:=by
  intro l
  induction l with
  | nil=>intro _; exact trivial
  | cons x l ih=>intro hl; exact ⟨x.vis _ (hl x (by simp)),ih fun y hy=>hl y (by simp [hy])⟩
 exact key ps h.all
theorem Ok.drop (h:Ok w0 ps w) (qs:List aS) (hq:∀ x∈qs,x∈ps):Ok w0 qs w:=⟨h.bel,fun x hx=>h.all x (hq x hx)⟩
theorem Ok.tail {x:aS} (h:Ok w0 (x::ps) w):Ok w0 ps w:=⟨h.bel,fun y hy=>h.all y (by simp [hy])⟩
theorem my {a:World} (g:Nat) (i:Nat) (u:Value):a.grownBy (a.setCell ⟨g,i,none⟩ u) (some g) :=
 ⟨rfl,rfl,rfl,by simp [World.setCell],fun j _ hne=>Below.heap_setCell a ⟨g,i,none⟩ u j (fun e=>hne (by rw [e]))⟩
theorem Ok.set_ {b i:Nat} {t:TypeId} {cs:List Value} {u:Value} (h:Ok w0 (af b t cs::ps) w) (hb:w0.heap.size≤b) (hf:∀ x∈ps,x.far (some b)):Ok w0 (af b t (cs.set i u)::ps) (w.setCell ⟨b,i,none⟩ u) where
 bel:=h.bel.setCell hb u
 all x hx:=by
  rcases List.mem_cons.1 hx with rfl | hx
  ·have:=Blk.set_ (show Blk w b t cs.toArray from h.all _ (List.mem_cons_self ..)) i u
   simpa [af] using this
  exact x.st _ _ _ (hf x hx) (my b i u) (h.all x (List.mem_cons_of_mem _ hx))
theorem Ok.get (h:Ok w0 ps w) (x:aS) (hx:x∈ps):x.p w:=h.all x hx
end
structure an (w0:World) (ps:List aS) (e:TypeId) (size:Nat) (v:Value) (n:Nat) (xs:List Value) (w:World):Prop where
 ok:Ok w0 ps w
 own:w.ownsRow w0.heap.size e size v n xs
 far:∀ x∈ps,x.far v.ownBlock
section
variable {w0 w w':World} {ps:List aS} {e:TypeId} {size:Nat} {v:Value} {n:Nat} {xs:List Value}
theorem an.start (h:Ok w0 ps w) (e:TypeId) (size:Nat):an w0 ps e size (.slice none 0 0) 0 [] w :=
 ⟨h,World.ownsRow_nil w w0.heap.size e size,fun x _=>x.none_⟩
theorem an.of_new (h:Ok w0 ps w) (hb:Below w.heap.size w w') (hown:w'.ownsRow w.heap.size e size v n xs):an w0 ps e size v n xs w' :=
 ⟨h.below hb,hown.mono h.bel.size,fun x hx=>by
  cases hv:v.ownBlock with
  | none=>exact x.none_
  | some k=>exact x.new w k (hown.lt k hv).1 (h.all x hx)⟩
theorem an.below (h:an w0 ps e size v n xs w) (hb:Below w.heap.size w w'):an w0 ps e size v n xs w' :=
 ⟨h.ok.below hb,h.own.kept (gk hb none) (by cases hv:v.ownBlock <;> simp),h.far⟩
theorem an.add (h:an w0 ps e size v n xs w) (x:aS) (hx:x.p w) (hf:x.far v.ownBlock):an w0 (x::ps) e size v n xs w :=
 ⟨h.ok.add x hx,h.own,fun y hy=>by
  rcases List.mem_cons.1 hy with rfl | hy
  ·exact hf
  exact h.far y hy⟩
theorem an.drew (h:an w0 ps e size v n xs w):an w0 ps e size v n xs w.drew:=h.below ((Below.refl _ _).drew)
theorem an.alloc_obj (h:an w0 ps e size v n xs w) (o:Obj):an w0 ps e size v n xs (w.alloc o):=h.below ((Below.refl _ _).alloc (Nat.le_refl _) o)
theorem an.alloc (h:an w0 ps e size v n xs w) (k:Nat) (t:TypeId) (cs:List Value) (hk:w.heap.size=k):an w0 (ac k t cs::ps) e size v n xs (w.alloc (.cells cs.toArray t)) :=
 (h.alloc_obj _).add _ (by subst hk; exact Blk.new w t cs.toArray) (by
  subst hk
  show some w.heap.size≠v.ownBlock
  intro hv
  have:=(h.own.lt _ hv.symm).2
  omega)
theorem an.grown (h:an w0 ps e size v n xs w) {v':Value} {n':Nat} {xs':List Value} (hown:w'.ownsRow w0.heap.size e size v' n' xs') (hg:w.grownBy w' v.ownBlock) (hat:v'.ownBlock=none∨v'.ownBlock=v.ownBlock∨v'.ownBlock=some w.heap.size):an w0 ps e size v' n' xs' w' where
 ok:=⟨h.ok.bel.grown hg h.ok.bel.size (fun k hk=>(h.own.lt k hk).1),fun x hx=>x.st _ _ _ (h.far x hx) hg (h.ok.all x hx)⟩
 own:=hown
 far x hx:=by
  rcases hat with hat | hat | hat
  ·rw [hat]; exact x.none_
  ·rw [hat]; exact h.far x hx
  rw [hat]; exact x.new w _ (Nat.le_refl _) (h.ok.all x hx)
theorem an.appended (h:an w0 ps e size v n xs w) {g m c:Nat} {xs':List Value} (hown:w'.ownsRow w0.heap.size e size (.slice (some ⟨g,0,none⟩) m c) m xs') (hg:w.grownBy w' v.ownBlock) (hat:v.ownBlock=some g∨g=w.heap.size) :
  an w0 ps e size (.slice (some ⟨g,0,none⟩) m c) m xs' w' :=
 h.grown hown hg (by
  right
  rcases hat with hat | hat
  ·exact .inl (by rw [hat]; rfl)
  exact .inr (by rw [hat]; rfl))
theorem an.drop (h:an w0 ps e size v n xs w) (qs:List aS) (hq:∀ x∈qs,x∈ps):an w0 qs e size v n xs w:=⟨h.ok.drop qs hq,h.own,fun x hx=>h.far x (hq x hx)⟩
theorem an.tail {x:aS} (h:an w0 (x::ps) e size v n xs w):an w0 ps e size v n xs w:=⟨h.ok.tail,h.own,fun y hy=>h.far y (by simp [hy])⟩
theorem an.pers (h:an w0 ps e size v n xs w):Ok w0 (aZ w0.heap.size e size v n xs::ps) w:=h.ok.add _ h.own
theorem an.back (h:Ok w0 (aZ w0.heap.size e size v n xs::ps) w) (hf:∀ x∈ps,x.far v.ownBlock):an w0 ps e size v n xs w:=⟨h.tail,h.get _ (List.mem_cons_self ..),hf⟩
end
theorem e8_ {P:Program} {fn:Func} {R:Ending→World→Prop} {a:Act} {w0 W:World} {ps:List aS} {b:Nat} {t:TypeId} {cs:List Value} {v0 v1 v2 v3 v4 v5 v6 v7:Value} (rs:List Value) (H:Hid (Ok w0 ps W))
  (hr:∀ W':World,(∀ i:Nat,W'.cell? ⟨b,i,none⟩=[v0,v1,v2,v3,v4,v5,v6,v7][i]?)→(results fn a.tmps).run P W'=.ok (.tuple (.agg #[v0,v1,v2,v3,v4,v5,v6,v7]::rs).toArray) W')
  (hR:Below w0.heap.size w0 ((((((((W.setCell ⟨b,0,none⟩ v0).setCell ⟨b,1,none⟩ v1).setCell ⟨b,2,none⟩ v2).setCell ⟨b,3,none⟩ v3).setCell ⟨b,4,none⟩ v4).setCell ⟨b,5,none⟩ v5).setCell ⟨b,6,none⟩ v6).setCell ⟨b,7,none⟩ v7)→R (.returned (.tuple (.agg #[v0,v1,v2,v3,v4,v5,v6,v7]::rs).toArray)) ((((((((W.setCell ⟨b,0,none⟩ v0).setCell ⟨b,1,none⟩ v1).setCell ⟨b,2,none⟩ v2).setCell ⟨b,3,none⟩ v3).setCell ⟨b,4,none⟩ v4).setCell ⟨b,5,none⟩ v5).setCell ⟨b,6,none⟩ v6).setCell ⟨b,7,none⟩ v7))
  (hm:af b t cs∈ps:=by first | exact .head _ | exact .tail _ (.head _) | exact .tail _ (.tail _ (.head _)) | exact .tail _ (.tail _ (.tail _ (.head _))) | exact .tail _ (.tail _ (.tail _ (.tail _ (.head _)))))
  (hl:cs.length=8:=by rfl) (hb:w0.heap.size≤b:=by first | exact Nat.le_refl _ | omega) (hd:a.defers=[]:=by rfl):bodyPost P fn R .ret a ((((((((W.setCell ⟨b,0,none⟩ v0).setCell ⟨b,1,none⟩ v1).setCell ⟨b,2,none⟩ v2).setCell ⟨b,3,none⟩ v3).setCell ⟨b,4,none⟩ v4).setCell ⟨b,5,none⟩ v5).setCell ⟨b,6,none⟩ v6).setCell ⟨b,7,none⟩ v7):=by
 have hK:Blk W b t cs.toArray:=H.out.get _ hm
 match cs,hl with
 | [c0,c1,c2,c3,c4,c5,c6,c7],_ =>
  have hE:=(((((((hK.set_ 0 v0).set_ 1 v1).set_ 2 v2).set_ 3 v3).set_ 4 v4).set_ 5 v5).set_ 6 v6).set_ 7 v7
  refine bodyPost_ret (hr _ fun i => ?_) hd (hR ((((((((H.out.bel.setCell hb v0).setCell hb v1).setCell hb v2).setCell hb v3).setCell hb v4).setCell hb v5).setCell hb v6).setCell hb v7))
  rw [hE.cell]
  simp
end Go.Proofs.YtdplcdhpnmcdjaaGreatDoor
namespace Go.Proofs.YtdplcdhpnmcdjaaGreatDoor
open Go.RowKit Go.Proofs.Tryz
def ba (c r:Int):Bool:=decide (1≤c∧c≤1024∧1≤r∧r≤1024)
theorem lV (c r:Int) (P:Prop) (h1:¬ 1≤c→P) (h2:1≤c→¬ c≤1024→P) (h3:1≤c→c≤1024→¬ 1≤r→P) (h4:1≤c→c≤1024→1≤r→¬ r≤1024→P) (h5:1≤c→c≤1024→1≤r→r≤1024→P):P:=by
 by_cases a:1≤c
 ·by_cases b:c≤1024
  ·by_cases d:1≤r
   ·by_cases e:r≤1024
    ·exact h5 a b d e
    exact h4 a b d e
   exact h3 a b d
  exact h2 a b
 exact h1 a
theorem dG (c r:Int) (w:World) :
  Calls prog 44 #[.agg #[.int .i64 c,.int .i64 r]] w fun e w'=>e=.returned (.bool (ba c r))∧Below w.heap.size w w':=by
 apply lV c r <;> intros
 all_goals
  go_enter func44,ntmps44
  go_wp2
  go_ret
  exact ⟨by simp only [Array.getD_eq_getD_getElem?]; simp [ba]; try omega,(Below.refl _ _).alloc (Nat.le_refl _) _⟩
end Go.Proofs.YtdplcdhpnmcdjaaGreatDoor
namespace Go.Proofs.YtdplcdhpnmcdjaaGreatDoor
open Go.RowKit
end Go.Proofs.YtdplcdhpnmcdjaaGreatDoor
