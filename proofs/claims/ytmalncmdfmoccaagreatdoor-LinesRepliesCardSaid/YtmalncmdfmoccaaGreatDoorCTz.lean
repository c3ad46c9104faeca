/- math/bits.TrailingZeros64 by the library's own law, and the bits of a number in ascending order. Condition of the former: the library's table lies as its initialiser lays it. Plain helpers: a slice of integers among the facts that outlive every call. Maps that a call makes and fills with known keys. No program stands here. -/
import Derived.Test.YtmalncmdfmoccaaGreatDoorCOk
import Derived.Shelf.Spec.TrailingZeros
import Derived.LaidSub
import Derived.WideMake
import Derived.Carry
namespace Go.Proofs.YtmalncmdfmoccaaGreatDoor
open Go.RowKit
def tz_ren : Go.Shelf.Ren:=⟨fun | 29 => 150 | n => n,fun | 0 => 0 | 3 => 3 | 4 => 4 | 5 => 5 | 22 => 50 | 25 => 142 | 54 => 225 | n => n,fun | 1 => 2 | n => n⟩
theorem tz_lays : Go.Proofs.Lays7.n29 Tryz.prog tz_ren:={
  mixed:=by kernel_rfl
  f29:=Tryz.func150.trans (congrArg some (by kernel_rfl))
  t0:=Tryz.underlying0
  a0:=Tryz.isAgg0
  z0:=Tryz.sizeOf0
  v0:=Tryz.zeroValue0
  i0:=by kernel_rfl
  t3:=Tryz.underlying3
  a3:=Tryz.isAgg3
  z3:=Tryz.sizeOf3
  v3:=Tryz.zeroValue3
  i3:=by kernel_rfl
  t4:=Tryz.underlying4
  a4:=Tryz.isAgg4
  z4:=Tryz.sizeOf4
  v4:=Tryz.zeroValue4
  i4:=by kernel_rfl
  t5:=Tryz.underlying5
  a5:=Tryz.isAgg5
  z5:=Tryz.sizeOf5
  v5:=Tryz.zeroValue5
  i5:=by kernel_rfl
  t22:=Tryz.underlying50
  a22:=Tryz.isAgg50
  z22:=Tryz.sizeOf50
  v22:=Tryz.zeroValue50
  i22:=by kernel_rfl
  t25:=Tryz.underlying142
  a25:=Tryz.isAgg142
  z25:=Tryz.sizeOf142
  v25:=Tryz.zeroValue142
  i25:=by kernel_rfl
  t54:=Tryz.underlying225
  a54:=Tryz.isAgg225
  z54:=Tryz.sizeOf225
  g1:=by kernel_rfl }
def Bru (w : World) : Prop:=TabAt 2 Lib.deBruijn64tab w
theorem Bru.below {B : Nat} {w w' : World} (h : Bru w) (hb : Below B w w') (hB : 2 < B) : Bru w':=fun j hj => (hb.cell (p:=⟨2,j,none⟩) hB).trans (h j hj)
theorem bru_lt {w : World} (h : Bru w) : 2 < w.heap.size:=World.block_lt_of_cell? w _ (h 0 (by decide))
theorem tz64 (x : Nat) (hx : x < 18446744073709551616) (w : World) (hT : Bru w) :
    Calls Tryz.prog 150 #[.int .u64 x] w fun e w' => e = .returned (.int .i64 (Lib.ctz 64 x)) ∧ w' = w :=
  Any7.bits_TrailingZeros64 tz_lays x hx w fun _ => hT
theorem bru_name : Tryz.prog.globalNamed "math/bits.deBruijn64tab" = some 2 := by kernel_rfl
theorem bru_type : (Tryz.prog.globals[2]?).map (·.type) = some 225:=by kernel_rfl
theorem bru_cells : Tryz.prog.cellsOf 225 = 64:=by kernel_rfl
theorem u8_cells : Tryz.prog.cellsOf 5 = 1:=by kernel_rfl
theorem bru_datum : (Rows.laid_math_bits_deBruijn64tab : DataW Unit) = Lib.tabData .u8 (Lib.deBruijn64tab.map fun n : Nat => (n : Int)):=by kernel_rfl
theorem bru_of_laid {W : World} {l : List (String × DataW Unit)} (h : laidMetH Tryz.prog l W)
    (hl : l.filter (fun x => x.1 == "math/bits.deBruijn64tab") = [("math/bits.deBruijn64tab", Rows.laid_math_bits_deBruijn64tab)]) : Bru W := by
  have h2 := h.filter (fun x => x.1 == "math/bits.deBruijn64tab")
  rw [hl,bru_datum] at h2
  have h3 : Lib.TabIs Tryz.prog W "math/bits.deBruijn64tab" .u8 (Lib.deBruijn64tab.map fun n : Nat => (n : Int)) := Lib.tabIs_of_head bru_name bru_type Tryz.underlying225 Tryz.underlying5 u8_cells bru_cells h2
  intro j hj
  have:=h3.cell bru_name j (by simpa using hj)
  rw [this]
  simp [List.getD_eq_getElem?_getD,List.getElem?_eq_getElem hj]
def bitsN (s : Nat) : Nat → List Int
  | 0 => []
  | n + 1 => bitsN s n ++ (if s.testBit n then [(n : Int)] else [])
def bitsL (s : Nat) : List Int:=bitsN s 64
theorem bitsN_len (s n : Nat) : (bitsN s n).length ≤ n:=by
  induction n with
  | zero => simp [bitsN]
  | succ n ih => simp only [bitsN,List.length_append]; split <;> simp <;> omega
theorem bitsL_zero : bitsL 0 = []:=by
  have key : ∀ n,bitsN 0 n = []:=by
    intro n
    induction n with
    | zero => rfl
    | succ n ih => simp [bitsN,ih]
  exact key 64
theorem lowest (x : Nat) (h0 : x ≠ 0) (hx : x < 18446744073709551616) :
    Lib.ctz 64 x < 64 ∧ (∀ j,j < Lib.ctz 64 x → x.testBit j = false) ∧ x.testBit (Lib.ctz 64 x) = true ∧ ∀ j,(x &&& (x - 1)).testBit j = (x.testBit j && decide (j ≠ Lib.ctz 64 x)):=by
  obtain ⟨m,hm,hk⟩:=Lib.ctzFrom_spec 64 x (by omega) hx
  have e : Lib.ctz 64 x = Lib.ctzFrom 64 x:=by simp [Lib.ctz,h0]
  rw [← e] at hm hk
  generalize Lib.ctz 64 x = t at hm hk ⊢
  have hp : 0 < 2 ^ t:=Nat.two_pow_pos t
  have h1 : x = 2 ^ t * (2 * m + 1) + 0:=by omega
  have h2 : x - 1 = 2 ^ t * (2 * m) + (2 ^ t - 1):=by
    have : 2 ^ t * (2 * m + 1) = 2 ^ t * (2 * m) + 2 ^ t:=by rw [Nat.mul_add,Nat.mul_one]
    omega
  have b1 : ∀ j,x.testBit j = if j < t then false else (2 * m + 1).testBit (j - t):=by
    intro j
    have:=Nat.testBit_two_pow_mul_add (i:=t) (2 * m + 1) hp j
    rw [← h1] at this
    rw [this]
    simp
  have b2 : ∀ j,(x - 1).testBit j = if j < t then true else (2 * m).testBit (j - t):=by
    intro j
    have:=Nat.testBit_two_pow_mul_add (i:=t) (2 * m) (show 2 ^ t - 1 < 2 ^ t by omega) j
    rw [← h2] at this
    rw [this]
    split
    · rename_i hj
      rw [Nat.testBit_two_pow_sub_one]
      simpa using hj
    · rfl
  refine ⟨hk,fun j hj => by rw [b1,if_pos hj],by rw [b1,if_neg (by omega),Nat.sub_self,Nat.testBit_zero]; simp,fun j => ?_⟩
  rw [Nat.testBit_and,b1,b2]
  by_cases hj : j < t
  · rw [if_pos hj,if_pos hj]; simp
  · rw [if_neg hj,if_neg hj]
    by_cases hjt : j = t
    · subst hjt
      rw [Nat.sub_self,Nat.testBit_zero,Nat.testBit_zero]
      simp
    · obtain ⟨k,hk2⟩ : ∃ k,j - t = k + 1:=⟨j - t - 1,by omega⟩
      rw [hk2,Nat.testBit_succ,Nat.testBit_succ,show (2 * m + 1) / 2 = m from by omega,show 2 * m / 2 = m from by omega]
      simp [hjt]
theorem bitsL_next (x : Nat) (h0 : x ≠ 0) (hx : x < 18446744073709551616) : bitsL x = (Lib.ctz 64 x : Int) :: bitsL (x &&& (x - 1)):=by
  obtain ⟨h1,h2,h3,h4⟩:=lowest x h0 hx
  generalize Lib.ctz 64 x = t at h1 h2 h3 h4 ⊢
  have key : ∀ n,(n ≤ t → bitsN x n = [] ∧ bitsN (x &&& (x - 1)) n = []) ∧ (t < n → bitsN x n = (t : Int) :: bitsN (x &&& (x - 1)) n):=by
    intro n
    induction n with
    | zero => exact ⟨fun _ => ⟨rfl,rfl⟩,fun h => by omega⟩
    | succ n ih =>
      refine ⟨fun hn => ?_,fun hn => ?_⟩
      · obtain ⟨i1,i2⟩:=ih.1 (by omega)
        have:=h2 n (by omega)
        exact ⟨by simp [bitsN,i1,this],by simp [bitsN,i2,h4,this]⟩
      · by_cases hnt : n = t
        · subst hnt
          obtain ⟨i1,i2⟩:=ih.1 (Nat.le_refl _)
          simp [bitsN,i1,i2,h4,h3]
        · rw [bitsN,ih.2 (by omega),bitsN]
          simp [h4,hnt]
  exact (key 64).2 h1
theorem clear_lt (x : Nat) (h0 : x ≠ 0) : x &&& (x - 1) < x:=Nat.lt_of_le_of_lt Nat.and_le_right (by omega)
end Go.Proofs.YtmalncmdfmoccaaGreatDoor
namespace Go.Proofs.YtmalncmdfmoccaaGreatDoor
open Go.RowKit
theorem IsInts.spot {k : IntKind} {w : World} {B n : Nat} {a : Option Addr} {f : Nat → Int} (h : IsInts k w B a n f) (hn : 0 < n) :
    ∃ b o,a = some ⟨b,o,none⟩ ∧ b < B ∧ ∀ i,i < n → w.cell? ⟨b,o + i,none⟩ = some (.int k (f i)):=by
  obtain ⟨⟨b,o,sp⟩,rfl,hB,hc⟩:=h hn
  have h0:=hc 0 hn
  have hs : sp = none:=by simpa [Addr.add] using World.cell?_spot h0
  subst hs
  refine ⟨b,o,rfl,hB,fun i hi => ?_⟩
  have:=hc i hi
  rwa [show (⟨b,o,none⟩ : Addr).add i = ⟨b,o + i,none⟩ from by unfold Addr.add; split <;> simp_all] at this
end Go.Proofs.YtmalncmdfmoccaaGreatDoor
namespace Go.Proofs.YtmalncmdfmoccaaGreatDoor
open Go.RowKit
theorem alloc_put (w : World) (o o2 : Obj) : { w.alloc o with heap:=(w.alloc o).heap.setIfInBounds w.heap.size o2 } = w.alloc o2:=by
  have e : (w.heap.push o).setIfInBounds w.heap.size o2 = w.heap.push o2:=by
    apply Array.ext_getElem?
    intro i
    rw [Array.getElem?_setIfInBounds,Array.getElem?_push,Array.getElem?_push,Array.size_push]
    by_cases h : w.heap.size = i
    · subst h; simp
    · have h2 : i ≠ w.heap.size:=fun e => h e.symm
      simp [h,h2]
  unfold World.alloc
  rw [e]
theorem ins_new {P : Program} (mty kt et : TypeId) (kd : TypeDesc) (hm : P.underlying mty = some (.map kt et)) (hk : P.underlying kt = some kd) (es : Array MapEntry) (c : Nat) (key val : Value) (hkey : MapKept.IsKey kd key) (hf : Instr.findNow kd key es.toList 0 = some none) (w : World) :
    (Instr.mapUpdate mty (.map (some w.heap.size)) key val).run P (w.alloc (.map es c)) = .ok () (w.alloc (.map (es.push { key:=key,val:=val,born:=c }) (c + 1))):=by
  have hb : (w.alloc (.map es c)).heap[w.heap.size]? = some (.map es c):=by unfold World.alloc; simp
  have hc : (Instr.checkKey false 10000 kt key).run P (w.alloc (.map es c)) = .ok () (w.alloc (.map es c)):=MapKept.run_checkKey (k:=key) hk hkey false 9999
  simp [Instr.mapUpdate,run_underlying hm,MapKept.run_getObj_map hb,hc,MapKept.run_findKey hk hf,MapKept.run_setObj_map _ hb,Result.andThen]
  exact alloc_put w _ _
theorem look_ok {P : Program} (mty kt et : TypeId) (kd : TypeDesc) (hm : P.underlying mty = some (.map kt et)) (hk : P.underlying kt = some kd) {es : Array MapEntry} {c r i : Nat} {w : World} (hb : w.heap[r]? = some (.map es c)) (key val : Value) (hkey : MapKept.IsKey kd key) (hf : Instr.findNow kd key es.toList 0 = some (some (i,val))) :
    (Instr.lookup mty (.map (some r)) key true).run P w = .ok (.tuple #[val,.bool true]) w:=by
  have hc : (Instr.checkKey es.isEmpty 10000 kt key).run P w = .ok () w:=MapKept.run_checkKey (k:=key) hk hkey _ 9999
  simp [Instr.lookup,run_underlying hm,MapKept.run_getObj_map hb,hc,MapKept.run_findKey hk hf,Result.andThen]
theorem heap_of_alloc (w : World) (o : Obj) : (w.alloc o).heap[w.heap.size]? = some o:=by unfold World.alloc; simp
end Go.Proofs.YtmalncmdfmoccaaGreatDoor
