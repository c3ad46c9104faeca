/- Contracts of package addr's Format and of its reference. Condition: the library's table of powers of ten holds what its initialiser lays. -/
import Derived.Test.YtmalncmdfmoccaaGreatDoorBRectW
import Derived.Test.YtmalncmdfmoccaaGreatDoorBMem
import Derived.Test.YtmalncmdfmoccaaGreatDoorBShelf
import Derived.Lib.SmallJoins
import Derived.Lib.AppendIntMem
namespace Go.Proofs.YtmalncmdfmoccaaGreatDoor
open Go.RowKit
def Pow (w : World) : Prop := Lib.TabIs Tryz.prog w "internal/strconv.uint64pow10" .u64 Lib.pow10Tab
theorem gPow : Tryz.prog.globalNamed "internal/strconv.uint64pow10" = some 3 := by kernel_rfl
theorem Pow.below {w w' : World} (h : Pow w) (hb : Below w.heap.size w w') : Pow w':=Joins.tab_stays gPow h hb (Nat.le_refl _)
theorem Itoa (n : Int) (h0 : 0 ≤ n) (h1 : n ≤ 9223372036854775807) (w : World) (hp : Pow w) :
    Calls Tryz.prog 51 #[.int .i64 n] w fun e w' => e = .returned (.string ⟨(Lib.decDigits n.toNat).toArray⟩) ∧ Below w.heap.size w w' :=
  (Tryz.strconv_Itoa n (by omega) h1 w hp).mono fun e w' ⟨he,k,os,hw⟩ => by
    refine ⟨?_,hw ▸ Lib.below_grow _ _ (Nat.le_refl _) k os⟩
    rw [he,Lib.itoa,if_neg (by omega)]
theorem lettersN_len (n : Nat) (h : n ≤ 1024) : (lettersN n).length ≤ 1024:=by
  have key : ∀ n : Nat,(lettersN n).length ≤ n:=by
    intro n
    induction n using Nat.strongRecOn with
    | _ n ih =>
      rcases Nat.eq_zero_or_pos n with rfl | hp
      · simp [lettersN_zero]
      · rw [lettersN_pos n hp,List.length_append]
        have:=ih ((n - 1) / 26) (by omega)
        simp; omega
  exact Nat.le_trans (key n) h
theorem dec_len (n : Nat) (h : n ≤ 1024) : (Lib.decDigits n).length ≤ 1025:=by
  have key : ∀ n : Nat,(Lib.decDigits n).length ≤ n + 1:=by
    intro n
    induction n using Nat.strongRecOn with
    | _ n ih =>
      by_cases hp : n < 10
      · rw [dec_small hp]; simp
      · rw [dec_big hp,List.length_append]
        have:=ih (n / 10) (by omega)
        simp; omega
  exact Nat.le_trans (key n) (by omega)
theorem formatS_bad (c r : Int) (h : validN c r = false) : formatS c r = ([],3):=by unfold formatS; rw [if_neg (by simp [h])]
theorem formatS_good (c r : Int) (h : validN c r = true) : formatS c r = (lettersN c.toNat ++ Lib.decDigits r.toNat,0):=by unfold formatS; rw [if_pos h]
theorem validN_parts {c r : Int} (h : validN c r = true) : 1 ≤ c ∧ c ≤ 1024 ∧ 1 ≤ r ∧ r ≤ 1024:=by simpa [validN] using h
theorem addr_Format (c r : Int) (w : World) (hp : Pow w) :
    Calls Tryz.prog 148 #[.agg #[.int .i64 c,.int .i64 r]] w fun e w' => e = .returned (.tuple #[.string ⟨(formatS c r).1.toArray⟩,.int .i64 (formatS c r).2]) ∧ Below w.heap.size w w':=by
  have HP:=Lib.hid hp
  clear hp
  cases hv : validN c r
  · rw [formatS_bad c r hv]
    have H:=Lib.hid hv
    clear hv
    go_enter Tryz.func148,Tryz.ntmps148
    go_wp2_with fail
    refine (addr_Valid _ _ _).mono ?_
    rintro e w' ⟨rfl,hb⟩
    rw [H.out]
    have HB:=Lib.hid hb
    clear hb
    go_wp2_with fail
    go_ret2
    exact ⟨rfl,((Below.refl _ _).alloc (Nat.le_refl _) _).trans (HB.out.mono (by simp))⟩
  · rw [formatS_good c r hv]
    obtain ⟨h1,h2,h3,h4⟩:=validN_parts hv
    have H:=Lib.hid hv
    clear hv
    go_enter Tryz.func148,Tryz.ntmps148
    go_wp2_with fail
    refine (addr_Valid _ _ _).mono ?_
    rintro e w1 ⟨rfl,hb⟩
    rw [H.out]
    have hc0:=hb.cell (p:=⟨w.heap.size,0,none⟩) (by simp)
    have hc1:=hb.cell (p:=⟨w.heap.size,1,none⟩) (by simp)
    have HB:=Lib.hid (((Below.refl w.heap.size w).alloc (Nat.le_refl _) _).trans (hb.mono (by simp)))
    clear hb
    go_wp2_with fail
    refine (addr_Letters _ _ (by omega) (by omega)).mono ?_
    rintro e w2 ⟨rfl,rfl⟩
    rw [show lettersC c = (lettersN c.toNat,0) from by unfold lettersC; rw [if_pos ⟨h1,h2⟩]]
    have hl:=lettersN_len c.toNat (by omega)
    generalize hlc : lettersN c.toNat = lc at hl ⊢
    have HLC:=Lib.hid hlc
    clear hlc
    go_wp2_with fail
    refine (Itoa _ (by omega) (by omega) _ (HP.out.below HB.out)).mono ?_
    rintro e w2 ⟨rfl,hb2⟩
    have hd:=dec_len r.toNat (by omega)
    generalize hlr : Lib.decDigits r.toNat = lr at hd ⊢
    have HLR:=Lib.hid hlr
    clear hlr
    have HB2:=Lib.hid (HB.out.trans (hb2.mono HB.out.size))
    clear hb2
    go_wp2_with fail
    go_ret2
    exact ⟨by rw [bytes_append,HLC.out,HLR.out]; rfl,HB2.out⟩
end Go.Proofs.YtmalncmdfmoccaaGreatDoor
