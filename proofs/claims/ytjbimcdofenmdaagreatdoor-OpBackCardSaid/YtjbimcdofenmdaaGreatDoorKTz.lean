/- Plain facts on the text of a range: what is written is read as the range; what is read is a range. math/bits.TrailingZeros64 by the library's own law, and the bits of a number in ascending order. Condition of the former: the library's table lies as its initialiser lays it. Contracts of louvre/group.Meet and louvre/group.Has: they return the bitwise meet and the bit that is asked for. Condition of Meet: the cells of the slice hold 64-bit numbers. The iterator members and its closure: it hands out the bits of its set, ascending. Condition: the library's table of TrailingZeros64. The contract of group.Members: the bits of the set, ascending, in new memory. Condition: the library's table of TrailingZeros64. Plain helpers: a slice of integers among the facts that outlive every call. -/
import Derived.Test.YtjbimcdofenmdaaGreatDoorKRectU
import Derived.Test.YtjbimcdofenmdaaGreatDoorKOk
import Derived.Shelf.Spec.TrailingZeros
import Derived.LaidSub
import Derived.Test.YtjbimcdofenmdaaGreatDoorKKit
import Derived.Test.YtjbimcdofenmdaaGreatDoorKIter
namespace Go.Proofs.YtjbimcdofenmdaaGreatDoor
open Go.RowKit
theorem let_58 (b : UInt8) (h : isLet b = true) : b ≠ 58:=by
  rintro rfl
  exact absurd h (by decide)
theorem dig_58 (b : UInt8) (h : isDig b = true) : b ≠ 58:=by
  rintro rfl
  exact absurd h (by decide)
theorem format_58 (c r : Int) : ∀ b ∈ (formatS c r).1,b ≠ 58:=by
  intro b hb
  cases hv : validN c r
  · rw [formatS_bad c r hv] at hb; simp at hb
  · rw [formatS_good c r hv] at hb
    rcases List.mem_append.1 hb with h | h
    · exact let_58 b (letters_let _ b h)
    · exact dig_58 b (List.all_eq_true.1 (dec_dig _) b h)
theorem cut_fmt1 (l : List UInt8) (h : ∀ b ∈ l,b ≠ 58) : Lib.cut l [58] = (l,[],false):=cut_none l fun _ _ => h _ (List.getElem_mem _)
theorem cut_fmt2 (l k : List UInt8) (h : ∀ b ∈ l,b ≠ 58) : Lib.cut (l ++ 58 :: k) [58] = (l,k,true):=by
  have:=cut_colon (l ++ 58 :: k) l.length (by simp) (fun j hj => by rw [List.getElem_append_left hj]; exact h _ (List.getElem_mem _)) (by simp)
  rw [this]
  simp
theorem parse_fmt (r : R4) (h : checkB r = true) : parseR (fmtL r) = (r,0):=by
  obtain ⟨a1,a2,a3,a4⟩:=r
  obtain ⟨h1,h2⟩:=check_valid h
  have hc:=(checkB_iff _).1 h
  simp only [] at hc
  have p1:=parse_format a1 a2 h1
  have p2:=parse_format a3 a4 h2
  unfold parseR fromS toS
  by_cases he : a1 = a3 ∧ a2 = a4
  · rw [fmtL_one _ he,cut_fmt1 _ (format_58 _ _)]
    obtain ⟨rfl,rfl⟩:=he
    simp only [Bool.false_eq_true,if_false]
    rw [p1]
    simp [parseAB]
  · rw [(fmtL_two _ h he).1,cut_fmt2 _ _ (format_58 _ _)]
    simp only [if_true]
    rw [p1,p2]
    simp [parseAB]
    omega
theorem parse_check (l : List UInt8) (h : (parseR l).2 = 0) : checkB (parseR l).1 = true:=by
  unfold parseR at h ⊢
  have ka:=parse_ok (fromS l)
  have kb:=parse_ok (toS l)
  generalize parseS (fromS l) = A at h ka ⊢
  generalize parseS (toS l) = B at h kb ⊢
  obtain ⟨A1,A2,A3⟩:=A
  obtain ⟨B1,B2,B3⟩:=B
  unfold parseAB at h ⊢
  simp only [] at h ka kb ⊢
  by_cases h4 : A3 = 4 ∨ B3 = 4
  · rw [if_pos h4] at h; simp at h
  · rw [if_neg h4] at h ⊢
    by_cases h3 : A3 ≠ 0 ∨ B3 ≠ 0
    · rw [if_pos h3] at h; simp at h
    · rw [if_neg h3]
      have va:=validN_parts (ka (by omega)).1
      have vb:=validN_parts (kb (by omega)).1
      rw [checkB_iff]
      simp only []
      omega
theorem fmtL_len (r : R4) : (fmtL r).length ≤ 6001:=by
  have h1:=format_len r.c1 r.r1
  have h2:=format_len r.c2 r.r2
  unfold fmtL
  split <;> simp <;> omega
theorem fmtR_ok (r : R4) : (fmtR r).2 = 0 ↔ checkB r = true:=by
  cases h : checkB r
  · rw [fmtR_no h]; simp
  · rw [fmtR_yes h]; simp
theorem rect_Parse_l (l : List UInt8) (m : Int) (w : World) (hs : l.length < 4294967281) (hm : w.cell? ⟨2,0,none⟩ = some (.int .i64 m)) :
    Calls Tryz.prog 90 #[.string ⟨l.toArray⟩] w fun e w' => e = .returned (.tuple #[.agg #[.int .i64 (parseR l).1.c1,.int .i64 (parseR l).1.r1,.int .i64 (parseR l).1.c2,.int .i64 (parseR l).1.r2],.int .i64 (parseR l).2]) ∧ Below w.heap.size w w':=rect_Parse ⟨l.toArray⟩ m w hs hm
end Go.Proofs.YtjbimcdofenmdaaGreatDoor
namespace Go.Proofs.YtjbimcdofenmdaaGreatDoor
open Go.RowKit
def tz_ren : Go.Shelf.Ren:=⟨fun | 29 => 75 | n => n,fun | 0 => 0 | 3 => 3 | 4 => 4 | 5 => 5 | 22 => 24 | 25 => 130 | 54 => 129 | n => n,fun | 1 => 0 | n => n⟩
theorem tz_lays : Go.Proofs.Lays7.n29 Tryz.prog tz_ren:={
  mixed:=by kernel_rfl
  f29:=Tryz.func75.trans (congrArg some (by kernel_rfl))
  t0:=Tryz.underlying0
  a0:=Tryz.isAgg0
  z0:=Tryz.sizeOf0
  v0:=Tryz.zeroValue0
  i0:=by kernel_rfl
  t3:=Tryz.underlying3
  a3:=Tryz.isAgg3
  z3:=Tryz.sizeOf3
  v3:=Tryz.zeroValue3
  i3:=by kernel_rfl
  t4:=Tryz.underlying4
  a4:=Tryz.isAgg4
  z4:=Tryz.sizeOf4
  v4:=Tryz.zeroValue4
  i4:=by kernel_rfl
  t5:=Tryz.underlying5
  a5:=Tryz.isAgg5
  z5:=Tryz.sizeOf5
  v5:=Tryz.zeroValue5
  i5:=by kernel_rfl
  t22:=Tryz.underlying24
  a22:=Tryz.isAgg24
  z22:=Tryz.sizeOf24
  v22:=Tryz.zeroValue24
  i22:=by kernel_rfl
  t25:=Tryz.underlying130
  a25:=Tryz.isAgg130
  z25:=Tryz.sizeOf130
  v25:=Tryz.zeroValue130
  i25:=by kernel_rfl
  t54:=Tryz.underlying129
  a54:=Tryz.isAgg129
  z54:=Tryz.sizeOf129
  g1:=by kernel_rfl }
def Bru (w : World) : Prop:=TabAt 0 Lib.deBruijn64tab w
theorem Bru.below {B : Nat} {w w' : World} (h : Bru w) (hb : Below B w w') (hB : 0 < B) : Bru w':=fun j hj => (hb.cell (p:=⟨0,j,none⟩) hB).trans (h j hj)
def kBru : Pers:=kFact (0 + 1) Bru fun _ _ hb h => h.below hb (by omega)
theorem bru_lt {w : World} (h : Bru w) : 0 < w.heap.size:=World.block_lt_of_cell? w _ (h 0 (by decide))
theorem tz64 (x : Nat) (hx : x < 18446744073709551616) (w : World) (hT : Bru w) :
    Calls Tryz.prog 75 #[.int .u64 x] w fun e w' => e = .returned (.int .i64 (Lib.ctz 64 x)) ∧ w' = w :=
  Any7.bits_TrailingZeros64 tz_lays x hx w fun _ => hT
theorem bru_name : Tryz.prog.globalNamed "math/bits.deBruijn64tab" = some 0 := by kernel_rfl
theorem bru_type : (Tryz.prog.globals[0]?).map (·.type) = some 129:=by kernel_rfl
theorem bru_cells : Tryz.prog.cellsOf 129 = 64:=by kernel_rfl
theorem u8_cells : Tryz.prog.cellsOf 5 = 1:=by kernel_rfl
theorem bru_datum : (Rows.laid_math_bits_deBruijn64tab : DataW Unit) = Lib.tabData .u8 (Lib.deBruijn64tab.map fun n : Nat => (n : Int)):=by kernel_rfl
theorem bru_of_laid {W : World} {l : List (String × DataW Unit)} (h : laidMetH Tryz.prog l W)
    (hl : l.filter (fun x => x.1 == "math/bits.deBruijn64tab") = [("math/bits.deBruijn64tab", Rows.laid_math_bits_deBruijn64tab)]) : Bru W := by
  have h2 := h.filter (fun x => x.1 == "math/bits.deBruijn64tab")
  rw [hl,bru_datum] at h2
  have h3 : Lib.TabIs Tryz.prog W "math/bits.deBruijn64tab" .u8 (Lib.deBruijn64tab.map fun n : Nat => (n : Int)) := Lib.tabIs_of_head bru_name bru_type Tryz.underlying129 Tryz.underlying5 u8_cells bru_cells h2
  intro j hj
  have:=h3.cell bru_name j (by simpa using hj)
  rw [this]
  simp [List.getD_eq_getElem?_getD,List.getElem?_eq_getElem hj]
def bitsN (s : Nat) : Nat → List Int
  | 0 => []
  | n + 1 => bitsN s n ++ (if s.testBit n then [(n : Int)] else [])
def bitsL (s : Nat) : List Int:=bitsN s 64
theorem bitsN_len (s n : Nat) : (bitsN s n).length ≤ n:=by
  induction n with
  | zero => simp [bitsN]
  | succ n ih => simp only [bitsN,List.length_append]; split <;> simp <;> omega
theorem bitsL_zero : bitsL 0 = []:=by
  have key : ∀ n,bitsN 0 n = []:=by
    intro n
    induction n with
    | zero => rfl
    | succ n ih => simp [bitsN,ih]
  exact key 64
theorem lowest (x : Nat) (h0 : x ≠ 0) (hx : x < 18446744073709551616) :
    Lib.ctz 64 x < 64 ∧ (∀ j,j < Lib.ctz 64 x → x.testBit j = false) ∧ x.testBit (Lib.ctz 64 x) = true ∧ ∀ j,(x &&& (x - 1)).testBit j = (x.testBit j && decide (j ≠ Lib.ctz 64 x)):=by
  obtain ⟨m,hm,hk⟩:=Lib.ctzFrom_spec 64 x (by omega) hx
  have e : Lib.ctz 64 x = Lib.ctzFrom 64 x:=by simp [Lib.ctz,h0]
  rw [← e] at hm hk
  generalize Lib.ctz 64 x = t at hm hk ⊢
  have hp : 0 < 2 ^ t:=Nat.two_pow_pos t
  have h1 : x = 2 ^ t * (2 * m + 1) + 0:=by omega
  have h2 : x - 1 = 2 ^ t * (2 * m) + (2 ^ t - 1):=by
    have : 2 ^ t * (2 * m + 1) = 2 ^ t * (2 * m) + 2 ^ t:=by rw [Nat.mul_add,Nat.mul_one]
    omega
  have b1 : ∀ j,x.testBit j = if j < t then false else (2 * m + 1).testBit (j - t):=by
    intro j
    have:=Nat.testBit_two_pow_mul_add (i:=t) (2 * m + 1) hp j
    rw [← h1] at this
    rw [this]
    simp
  have b2 : ∀ j,(x - 1).testBit j = if j < t then true else (2 * m).testBit (j - t):=by
    intro j
    have:=Nat.testBit_two_pow_mul_add (i:=t) (2 * m) (show 2 ^ t - 1 < 2 ^ t by omega) j
    rw [← h2] at this
    rw [this]
    split
    · rename_i hj
      rw [Nat.testBit_two_pow_sub_one]
      simpa using hj
    · rfl
  refine ⟨hk,fun j hj => by rw [b1,if_pos hj],by rw [b1,if_neg (by omega),Nat.sub_self,Nat.testBit_zero]; simp,fun j => ?_⟩
  rw [Nat.testBit_and,b1,b2]
  by_cases hj : j < t
  · rw [if_pos hj,if_pos hj]; simp
  · rw [if_neg hj,if_neg hj]
    by_cases hjt : j = t
    · subst hjt
      rw [Nat.sub_self,Nat.testBit_zero,Nat.testBit_zero]
      simp
    · obtain ⟨k,hk2⟩ : ∃ k,j - t = k + 1:=⟨j - t - 1,by omega⟩
      rw [hk2,Nat.testBit_succ,Nat.testBit_succ,show (2 * m + 1) / 2 = m from by omega,show 2 * m / 2 = m from by omega]
      simp [hjt]
theorem bitsL_next (x : Nat) (h0 : x ≠ 0) (hx : x < 18446744073709551616) : bitsL x = (Lib.ctz 64 x : Int) :: bitsL (x &&& (x - 1)):=by
  obtain ⟨h1,h2,h3,h4⟩:=lowest x h0 hx
  generalize Lib.ctz 64 x = t at h1 h2 h3 h4 ⊢
  have key : ∀ n,(n ≤ t → bitsN x n = [] ∧ bitsN (x &&& (x - 1)) n = []) ∧ (t < n → bitsN x n = (t : Int) :: bitsN (x &&& (x - 1)) n):=by
    intro n
    induction n with
    | zero => exact ⟨fun _ => ⟨rfl,rfl⟩,fun h => by omega⟩
    | succ n ih =>
      refine ⟨fun hn => ?_,fun hn => ?_⟩
      · obtain ⟨i1,i2⟩:=ih.1 (by omega)
        have:=h2 n (by omega)
        exact ⟨by simp [bitsN,i1,this],by simp [bitsN,i2,h4,this]⟩
      · by_cases hnt : n = t
        · subst hnt
          obtain ⟨i1,i2⟩:=ih.1 (Nat.le_refl _)
          simp [bitsN,i1,i2,h4,h3]
        · rw [bitsN,ih.2 (by omega),bitsN]
          simp [h4,hnt]
  exact (key 64).2 h1
theorem clear_lt (x : Nat) (h0 : x ≠ 0) : x &&& (x - 1) < x:=Nat.lt_of_le_of_lt Nat.and_le_right (by omega)
end Go.Proofs.YtjbimcdofenmdaaGreatDoor
namespace Go.Proofs.YtjbimcdofenmdaaGreatDoor
open Go.RowKit
def meetF (f : Nat → Nat) : Nat → Nat
  | 0 => 18446744073709551615
  | k + 1 => meetF f k &&& f k
theorem meetF_succ (f : Nat → Nat) (k : Nat) : meetF f (k + 1) = meetF f k &&& f k:=rfl
theorem meetF_lt (f : Nat → Nat) (k : Nat) : meetF f k < 18446744073709551616:=by
  induction k with
  | zero => show 18446744073709551615 < 18446744073709551616; decide
  | succ k ih => exact Nat.lt_of_le_of_lt Nat.and_le_left ih
def hasB (s : Nat) (u : Int) : Bool:=decide (0 ≤ u ∧ u < 64) && s.testBit u.toNat
theorem has_word (s : Nat) (k : Nat) (hs : s < 18446744073709551616) : (bits BinOp.and IntKind.u64 ((s : Int) / 2 ^ k) 1 == 1) = s.testBit k:=by
  have e : ((s : Int) / 2 ^ k) = ((s / 2 ^ k : Nat) : Int):=by simp
  have h:=u64_and_nat (s / 2 ^ k) 1 (Nat.lt_of_le_of_lt (Nat.div_le_self _ _) hs) (by decide)
  rw [e,show (1 : Int) = ((1 : Nat) : Int) from rfl,h,nat_mask1,Nat.testBit_eq_decide_div_mod_eq]
  rw [Bool.eq_iff_iff]; simp; omega
theorem has_any (s : Int) (u : Int) (w : World) (h0 : 0 ≤ s) (h1 : s < 18446744073709551616) :
    Calls Tryz.prog 48 #[.int .u64 s,.int .i64 u] w fun e w' => e = .returned (.bool (hasB s.toNat u)) ∧ w = w':=by
  obtain ⟨s,rfl⟩:=Int.eq_ofNat_of_zero_le h0
  have hs : s < 18446744073709551616:=by omega
  rw [Int.toNat_natCast]
  by_cases a : 0 ≤ u
  · by_cases b : u < 64
    · go_enter Tryz.func48,Tryz.ntmps48
      go_wp2
      go_ret
      refine ⟨?_,rfl⟩
      simp only [Array.getD_eq_getD_getElem?]
      have:=has_word s u.toNat hs
      simp [hasB,a,b,this]
    · go_enter Tryz.func48,Tryz.ntmps48
      go_wp2
      go_ret
      exact ⟨by simp [hasB]; intro; omega,rfl⟩
  · go_enter Tryz.func48,Tryz.ntmps48
    go_wp2
    go_ret
    exact ⟨by simp [hasB]; omega,rfl⟩
end Go.Proofs.YtjbimcdofenmdaaGreatDoor
namespace Go.Proofs.YtjbimcdofenmdaaGreatDoor
open Go.RowKit
attribute [local go_sem] Oper.semAt_some
theorem u64_clear (s : Nat) (h0 : s ≠ 0) (hs : s < 18446744073709551616) : bits BinOp.and IntKind.u64 (s : Int) ((s : Int) - 1) = ((s &&& (s - 1) : Nat) : Int):=by
  have e : (s : Int) - 1 = ((s - 1 : Nat) : Int):=by omega
  rw [e]
  exact u64_and_nat s (s - 1) hs (by omega)
def natAt (W : World) (o : Nat) : Nat:=match W.cell? ⟨o,0,none⟩ with
  | some (.int _ n) => n.toNat
  | _ => 0
theorem natAt_of {W : World} {o k : Nat} {t : TypeId} (h : Boxed W o t (.int .u64 k)) : natAt W o = k:=by unfold natAt; rw [h.cell]; simp
set_option maxRecDepth 100000 in
set_option maxHeartbeats 2000000 in
theorem members_hands (m : Nat) (hm : 2 ≤ m) (o s : Nat) (w : World) (hs : s < 18446744073709551616) (hB : Boxed w o 24 (.int .u64 s)) :
    Hands Fence.wide m Tryz.prog 74 #[.pointer (some ⟨o,0,none⟩)] o Bru (bitsL s) w:=by
  intro l J W hK hset hdrew hY ho h0
  have hBW : Boxed W o 24 (.int .u64 s):=ho.trans hB
  have HK:=Lib.hid hK
  have HS:=Lib.hid hset
  have HY:=Lib.hid hY
  have h1 : 1 ≤ m - 1:=by omega
  clear hK hset hdrew hY ho hB
  refine callsIn_of_wp Tryz.func74 rfl trivial ?_ rfl
  simp only [Tryz.ntmps74,List.size_toArray,List.length_cons,List.length_nil,Nat.reduceAdd,Nat.reduceSub,Array.replicate_succ,Array.replicate_zero,List.push_toArray,List.append_toArray,List.nil_append,List.cons_append]
  gi_wp2
  gi_loopw [3] (fun _ wr => ∃ (pre : List Int) (k : Nat),Hid (k < 18446744073709551616 ∧ bitsL s = pre ++ bitsL k) ∧ Hid (Boxed wr o 24 (.int .u64 k)) ∧ Hid (J pre wr)) (fun _ wr => natAt wr o)
  case atStart => exact ⟨[],s,⟨hs,(List.nil_append _).symm⟩,hBW,h0⟩
  case round =>
    obtain ⟨pre,k,HX,HB,HJ⟩:=hrel
    have hc:=HB.out.cell
    have hf:=HB.out.frozen
    by_cases hk : k = 0
    · subst hk
      gi_wp2
      go_end0
      refine ⟨⟨_,rfl⟩,?_⟩
      have:=HX.out.2
      rw [bitsL_zero,List.append_nil] at this
      rw [this]
      exact HJ.out
    · have hk' : ((k : Int) != 0) = true:=by simpa using hk
      obtain ⟨fn,tmps,assign,body,hy,hR⟩:=HY.out pre (Lib.ctz 64 k) wr HJ.out ⟨bitsL (k &&& (k - 1)),by rw [List.append_assoc,List.singleton_append,← bitsL_next k hk HX.out.1]; exact HX.out.2.symm⟩
      gi_wp2_with fail
      refine ⟨trivial,fun _ => by omega,((callsIn_wide (n:=m - 1)).2 (tz64 k HX.out.1 _ (HK.out _ _ HJ.out))).mono ?_⟩
      rintro e w' ⟨rfl,rfl⟩
      gi_wp2
      refine ⟨fun _ => by omega,hR.mono ?_⟩
      rintro e W3 ⟨rfl,hJ3,ho3⟩
      have hB3 : Boxed W3 o 24 (.int .u64 k):=ho3.trans HB.out
      have hc3:=hB3.cell
      have hf3:=hB3.frozen
      have hk1 : (1 : Int) ≤ k:=by omega
      have hk2 : (k : Int) ≤ 18446744073709551615:=by have:=HX.out.1; omega
      have HCL:=Lib.hid (u64_clear k hk HX.out.1)
      have HK0:=Lib.hid hk
      clear hk hc hf hy hR ho3
      gi_wp2
      go_roundw
      case rel =>
        have hlt:=clear_lt k HK0.out
        refine ⟨pre ++ [(Lib.ctz 64 k : Int)],k &&& (k - 1),⟨by have:=HX.out.1; omega,?_⟩,?_,HS.out _ _ _ hJ3⟩
        · rw [List.append_assoc,List.singleton_append,← bitsL_next k HK0.out HX.out.1]
          exact HX.out.2
        · show Boxed _ _ _ _
          rw [← HCL.out]
          exact hB3.set _
      case measure =>
        have hb : Boxed (W3.setCell ⟨o,0,none⟩ (.int .u64 (bits BinOp.and IntKind.u64 (k : Int) ((k : Int) - 1)))) o 24 (.int .u64 ((k &&& (k - 1) : Nat) : Int)):=by
          rw [← HCL.out]
          exact hB3.set _
        rw [natAt_of HB.out,natAt_of hb]
        exact clear_lt k HK0.out
theorem group_members (s : Nat) (w : World) :
    Calls Tryz.prog 47 #[.int .u64 s] w fun e w' => e = .returned (.func (.func 74) #[] #[.pointer (some ⟨w.heap.size,0,none⟩)]) ∧ w' = w.alloc (.cells #[.int .u64 s] 24):=by
  go_enter Tryz.func47,Tryz.ntmps47
  go_wp2
  go_ret
  exact ⟨rfl,rfl⟩
end Go.Proofs.YtjbimcdofenmdaaGreatDoor
namespace Go.Proofs.YtjbimcdofenmdaaGreatDoor
open Go.RowKit
attribute [local go_sem] Oper.semAt_some
theorem info_int : (Tryz.prog.info? 3).map (fun i => (i.zero,i.size,i.bytes)) = some (some (.int .i64 0),1,8):=by kernel_rfl
def intsV (l : List Int) : List Value:=l.map fun x => .int .i64 x
theorem intsV_snoc (l : List Int) (x : Int) : intsV (l ++ [x]) = intsV l ++ [.int .i64 x]:=by simp [intsV]
section
variable {w W : World} {o : Nat} {pre : List Int}
end
end Go.Proofs.YtjbimcdofenmdaaGreatDoor
namespace Go.Proofs.YtjbimcdofenmdaaGreatDoor
open Go.RowKit
def kInts (k : IntKind) (B : Nat) (a : Option Addr) (n : Nat) (f : Nat → Int) : Pers:=kFact B (fun w => IsInts k w B a n f) fun _ _ hb h => h.below hb (Nat.le_refl _)
theorem IsInts.spot {k : IntKind} {w : World} {B n : Nat} {a : Option Addr} {f : Nat → Int} (h : IsInts k w B a n f) (hn : 0 < n) :
    ∃ b o,a = some ⟨b,o,none⟩ ∧ b < B ∧ ∀ i,i < n → w.cell? ⟨b,o + i,none⟩ = some (.int k (f i)):=by
  obtain ⟨⟨b,o,sp⟩,rfl,hB,hc⟩:=h hn
  have h0:=hc 0 hn
  have hs : sp = none:=by simpa [Addr.add] using World.cell?_spot h0
  subst hs
  refine ⟨b,o,rfl,hB,fun i hi => ?_⟩
  have:=hc i hi
  rwa [show (⟨b,o,none⟩ : Addr).add i = ⟨b,o + i,none⟩ from by unfold Addr.add; split <;> simp_all] at this
theorem ints_cells {k : IntKind} {w : World} {B n : Nat} {a : Option Addr} {f : Nat → Int} (h : (kInts k B a n f).p w) (i : Nat) (hi : i < n) :
    ∃ b o,a = some ⟨b,o,none⟩ ∧ (kCells b (o + i) [.int k (f i)]).p w:=by
  obtain ⟨b,o,ha,hB,hc⟩:=h.1.spot (by omega)
  exact ⟨b,o,ha,Nat.lt_of_lt_of_le hB h.2,hc i hi,trivial⟩
theorem own_intsL {w : World} {base : Nat} {e : TypeId} {v : Value} {l : List Int} (h : w.ownsRow base e 1 v l.length (l.map fun x => .int .i64 x)) :
    ∃ a c,v = .slice a l.length c ∧ IsInts .i64 w w.heap.size a l.length (fun i => l.getD i 0) ∧ l.length ≤ maxLen :=
  own_ints h fun i hi => by rw [List.getElem?_map,List.getElem?_eq_getElem hi,List.getD_eq_getElem?_getD,List.getElem?_eq_getElem hi]; rfl
theorem ints_of_blk {w : World} {b : Nat} {t : TypeId} (l : List Int) (h : (kBlk b t (l.map fun x => .int .i64 x)).p w) : IsInts .i64 w w.heap.size (some ⟨b,0,none⟩) l.length (fun i => l.getD i 0):=by
  intro _
  refine ⟨_,rfl,Blk.lt h,fun i hi => ?_⟩
  have:=Blk.cell h i
  rw [show (⟨b,0,none⟩ : Addr).add i = ⟨b,i,none⟩ from by unfold Addr.add; split <;> simp_all,this]
  simp [List.getD_eq_getElem?_getD,List.getElem?_eq_getElem hi]
theorem ints_up {k : IntKind} {w : World} {B n : Nat} {a : Option Addr} {f : Nat → Int} (h : (kInts k B a n f).p w) : IsInts k w w.heap.size a n f:=h.1.below (Below.refl _ _) h.2
end Go.Proofs.YtjbimcdofenmdaaGreatDoor
