/- Contracts of package addr's Format and of its reference. Condition: the library's table of powers of ten holds what its initialiser lays. What the library's functions want of its variables: the table of TrailingZeros64, MaxLen, ErrSyntax, ErrRange; kept by whatever grows. Contracts of group.Of and All, and of the reference's User, Bit, Has, Of, All, Meet. Condition: the cells of the slices hold numbers of their types. -/
import Derived.Test.YtmalncmdfmoccaaGreatDoorCIter
import Derived.Test.YtmalncmdfmoccaaGreatDoorCAddrW2
import Derived.Test.YtmalncmdfmoccaaGreatDoorCShelf
import Derived.Lib.SmallJoins
import Derived.Lib.AppendIntMem
import Derived.Test.YtmalncmdfmoccaaGreatDoorCTz
import Derived.Test.YtmalncmdfmoccaaGreatDoorCMem
import Derived.Stop.LaidErr
import Derived.LaidLaws
import Derived.OpenShut
namespace Go.Proofs.YtmalncmdfmoccaaGreatDoor
open Go.RowKit
def Pow (w : World) : Prop := Lib.TabIs Tryz.prog w "internal/strconv.uint64pow10" .u64 Lib.pow10Tab
theorem gPow : Tryz.prog.globalNamed "internal/strconv.uint64pow10" = some 3 := by kernel_rfl
theorem Pow.below {w w' : World} (h : Pow w) (hb : Below w.heap.size w w') : Pow w':=Joins.tab_stays gPow h hb (Nat.le_refl _)
theorem Itoa (n : Int) (h0 : 0 ≤ n) (h1 : n ≤ 9223372036854775807) (w : World) (hp : Pow w) :
    Calls Tryz.prog 51 #[.int .i64 n] w fun e w' => e = .returned (.string ⟨(Lib.decDigits n.toNat).toArray⟩) ∧ Below w.heap.size w w' :=
  (Tryz.strconv_Itoa n (by omega) h1 w hp).mono fun e w' ⟨he,k,os,hw⟩ => by
    refine ⟨?_,hw ▸ Lib.below_grow _ _ (Nat.le_refl _) k os⟩
    rw [he,Lib.itoa,if_neg (by omega)]
theorem lettersN_len (n : Nat) (h : n ≤ 1024) : (lettersN n).length ≤ 1024:=by
  have key : ∀ n : Nat,(lettersN n).length ≤ n:=by
    intro n
    induction n using Nat.strongRecOn with
    | _ n ih =>
      rcases Nat.eq_zero_or_pos n with rfl | hp
      · simp [lettersN_zero]
      · rw [lettersN_pos n hp,List.length_append]
        have:=ih ((n - 1) / 26) (by omega)
        simp; omega
  exact Nat.le_trans (key n) h
theorem dec_len (n : Nat) (h : n ≤ 1024) : (Lib.decDigits n).length ≤ 1025:=by
  have key : ∀ n : Nat,(Lib.decDigits n).length ≤ n + 1:=by
    intro n
    induction n using Nat.strongRecOn with
    | _ n ih =>
      by_cases hp : n < 10
      · rw [dec_small hp]; simp
      · rw [dec_big hp,List.length_append]
        have:=ih (n / 10) (by omega)
        simp; omega
  exact Nat.le_trans (key n) (by omega)
theorem formatS_bad (c r : Int) (h : validN c r = false) : formatS c r = ([],3):=by unfold formatS; rw [if_neg (by simp [h])]
theorem formatS_good (c r : Int) (h : validN c r = true) : formatS c r = (lettersN c.toNat ++ Lib.decDigits r.toNat,0):=by unfold formatS; rw [if_pos h]
theorem validN_parts {c r : Int} (h : validN c r = true) : 1 ≤ c ∧ c ≤ 1024 ∧ 1 ≤ r ∧ r ≤ 1024:=by simpa [validN] using h
theorem addr_Format (c r : Int) (w : World) (hp : Pow w) :
    Calls Tryz.prog 148 #[.agg #[.int .i64 c,.int .i64 r]] w fun e w' => e = .returned (.tuple #[.string ⟨(formatS c r).1.toArray⟩,.int .i64 (formatS c r).2]) ∧ Below w.heap.size w w':=by
  have HP:=Lib.hid hp
  clear hp
  cases hv : validN c r
  · rw [formatS_bad c r hv]
    have H:=Lib.hid hv
    clear hv
    go_enter Tryz.func148,Tryz.ntmps148
    go_wp2_with fail
    refine (addr_Valid _ _ _).mono ?_
    rintro e w' ⟨rfl,hb⟩
    rw [H.out]
    have HB:=Lib.hid hb
    clear hb
    go_wp2_with fail
    go_ret2
    exact ⟨rfl,((Below.refl _ _).alloc (Nat.le_refl _) _).trans (HB.out.mono (by simp))⟩
  · rw [formatS_good c r hv]
    obtain ⟨h1,h2,h3,h4⟩:=validN_parts hv
    have H:=Lib.hid hv
    clear hv
    go_enter Tryz.func148,Tryz.ntmps148
    go_wp2_with fail
    refine (addr_Valid _ _ _).mono ?_
    rintro e w1 ⟨rfl,hb⟩
    rw [H.out]
    have hc0:=hb.cell (p:=⟨w.heap.size,0,none⟩) (by simp)
    have hc1:=hb.cell (p:=⟨w.heap.size,1,none⟩) (by simp)
    have HB:=Lib.hid (((Below.refl w.heap.size w).alloc (Nat.le_refl _) _).trans (hb.mono (by simp)))
    clear hb
    go_wp2_with fail
    refine (addr_Letters _ _ (by omega) (by omega)).mono ?_
    rintro e w2 ⟨rfl,rfl⟩
    rw [show lettersC c = (lettersN c.toNat,0) from by unfold lettersC; rw [if_pos ⟨h1,h2⟩]]
    have hl:=lettersN_len c.toNat (by omega)
    generalize hlc : lettersN c.toNat = lc at hl ⊢
    have HLC:=Lib.hid hlc
    clear hlc
    go_wp2_with fail
    refine (Itoa _ (by omega) (by omega) _ (HP.out.below HB.out)).mono ?_
    rintro e w2 ⟨rfl,hb2⟩
    have hd:=dec_len r.toNat (by omega)
    generalize hlr : Lib.decDigits r.toNat = lr at hd ⊢
    have HLR:=Lib.hid hlr
    clear hlr
    have HB2:=Lib.hid (HB.out.trans (hb2.mono HB.out.size))
    clear hb2
    go_wp2_with fail
    go_ret2
    exact ⟨by rw [bytes_append,HLC.out,HLR.out]; rfl,HB2.out⟩
theorem ref_Format (c r : Int) (w : World) :
    Calls Tryz.prog 155 #[.agg #[.int .i64 c,.int .i64 r]] w fun e w' => e = .returned (.tuple #[.string ⟨(formatS c r).1.toArray⟩,.int .i64 (formatS c r).2]) ∧ Below w.heap.size w w':=by
  cases hv : validN c r
  · rw [formatS_bad c r hv]
    have H:=Lib.hid hv
    clear hv
    go_enter Tryz.func155,Tryz.ntmps155
    go_wp2_with fail
    refine (ref_Valid _ _ _).mono ?_
    rintro e w' ⟨rfl,hb⟩
    rw [H.out]
    have HB:=Lib.hid hb
    clear hb
    go_wp2_with fail
    go_ret2
    exact ⟨rfl,((Below.refl _ _).alloc (Nat.le_refl _) _).trans (HB.out.mono (by simp))⟩
  · rw [formatS_good c r hv]
    obtain ⟨h1,h2,h3,h4⟩:=validN_parts hv
    have H:=Lib.hid hv
    clear hv
    go_enter Tryz.func155,Tryz.ntmps155
    go_wp2_with fail
    refine (ref_Valid _ _ _).mono ?_
    rintro e w1 ⟨rfl,hb⟩
    rw [H.out]
    have hc0:=hb.cell (p:=⟨w.heap.size,0,none⟩) (by simp)
    have hc1:=hb.cell (p:=⟨w.heap.size,1,none⟩) (by simp)
    have hz:=hb.size
    rw [World.size_alloc] at hz
    have HB:=Lib.hid (((Below.refl w.heap.size w).alloc (Nat.le_refl _) _).trans (hb.mono (by simp)))
    clear hb
    go_wp2_with fail
    refine (ref_Letters _ _ (by omega) (by omega)).mono ?_
    rintro e w2 ⟨rfl,hb2⟩
    rw [show lettersC c = (lettersN c.toNat,0) from by unfold lettersC; rw [if_pos ⟨h1,h2⟩]]
    have hl:=lettersN_len c.toNat (by omega)
    generalize hlc : lettersN c.toNat = lc at hl ⊢
    have HLC:=Lib.hid hlc
    clear hlc
    have hc2:=(hb2.cell (p:=⟨w.heap.size,1,none⟩) (by simp; omega)).trans hc1
    have HB2:=Lib.hid (HB.out.trans (hb2.mono HB.out.size))
    clear hb2
    go_wp2_with fail
    refine (ref_Digits _ _ (by omega) (by omega)).mono ?_
    rintro e w3 ⟨rfl,hb3⟩
    have hd:=dec_len r.toNat (by omega)
    generalize hlr : Lib.decDigits r.toNat = lr at hd ⊢
    have HLR:=Lib.hid hlr
    clear hlr
    have HB3:=Lib.hid (HB2.out.trans (hb3.mono HB2.out.size))
    clear hb3
    go_wp2_with fail
    go_ret2
    exact ⟨by rw [bytes_append,HLC.out,HLR.out]; rfl,HB3.out⟩
end Go.Proofs.YtmalncmdfmoccaaGreatDoor
namespace Go.Proofs.YtmalncmdfmoccaaGreatDoor
open Go.RowKit
def Env (w : World) : Prop:=Bru w ∧ (∃ m,w.cell? ⟨1,0,none⟩ = some (.int .i64 m)) ∧ (∃ te pe,w.cell? ⟨6,0,none⟩ = some (.iface te pe)) ∧ ∃ te pe,w.cell? ⟨7,0,none⟩ = some (.iface te pe)
theorem Env.below {w w' : World} (h : Env w) (hb : Below w.heap.size w w') : Env w':=by
  obtain ⟨h1,⟨m,h2⟩,⟨t,p,h3⟩,t',p',h4⟩:=h
  exact ⟨h1.below hb (bru_lt h1),⟨m,cell_step hb h2⟩,⟨t,p,cell_step hb h3⟩,t',p',cell_step hb h4⟩
theorem err_star : "*" ++ "errors.errorString" = "*errors.errorString" := by decide
theorem err_row (u : TypeId) (h : Tryz.prog.typeName? 3 u = some "*errors.errorString") : u = 281 :=
  typeName_ptr_named (nm := "errors.errorString") (by rw [err_star]; kernel_rfl) (by kernel_rfl) (by decide) u (by rw [err_star]; exact h)
theorem err_cells : Tryz.prog.cellsOf 283 = 1:=by kernel_rfl
theorem str_cells : Tryz.prog.cellsOf 9 = 1:=by kernel_rfl
theorem syn_name : Tryz.prog.globalNamed "strconv.ErrSyntax" = some 6 := by kernel_rfl
theorem syn_type : (Tryz.prog.globals[6]?).map (·.type) = some 102:=by kernel_rfl
theorem rng_name : Tryz.prog.globalNamed "strconv.ErrRange" = some 7 := by kernel_rfl
theorem rng_type : (Tryz.prog.globals[7]?).map (·.type) = some 102:=by kernel_rfl
theorem env_of {W : World} {l : List (String × DataW Unit)} (h : laidMetH Tryz.prog l W) (hS : W.ShapedOpen Tryz.prog)
    (hl : l.filter (fun x => x.1 == "math/bits.deBruijn64tab") = [("math/bits.deBruijn64tab", Rows.laid_math_bits_deBruijn64tab)])
    (hs : l.filter (fun x => x.1 == "strconv.ErrSyntax") = [("strconv.ErrSyntax", Rows.laid_strconv_ErrSyntax)])
    (hr : l.filter (fun x => x.1 == "strconv.ErrRange") = [("strconv.ErrRange", Rows.laid_strconv_ErrRange)]) : Env W := by
  have h2 := h.filter (fun x => x.1 == "strconv.ErrSyntax")
  have h3 := h.filter (fun x => x.1 == "strconv.ErrRange")
  rw [hs] at h2
  rw [hr] at h3
  obtain ⟨a1,s1,hv1,_,_,_⟩:=laid_sentinel ((laidMetH_iff ..).1 h2).1 syn_name syn_type Tryz.underlying102 err_row Tryz.underlying281 Tryz.underlying283 rfl rfl Tryz.underlying9 err_cells str_cells
  obtain ⟨a2,s2,hv2,_,_,_⟩:=laid_sentinel ((laidMetH_iff ..).1 h3).1 rng_name rng_type Tryz.underlying102 err_row Tryz.underlying281 Tryz.underlying283 rfl rfl Tryz.underlying9 err_cells str_cells
  refine ⟨bru_of_laid h hl,Tryz.laysM145.s1_3 W hS,⟨_,_,by simpa using World.var?_cell syn_name hv1 0⟩,_,_,by simpa using World.var?_cell rng_name hv2 0⟩
end Go.Proofs.YtmalncmdfmoccaaGreatDoor
namespace Go.Proofs.YtmalncmdfmoccaaGreatDoor
open Go.RowKit
theorem pow_lt (k : Nat) (h : k < 64) : 2 ^ k < 18446744073709551616:=Nat.pow_lt_pow_right (a:=2) (n:=64) (by omega) h
theorem wrap_pow (k : Nat) (h : k < 64) : IntKind.u64.wrap ((2 : Int) ^ k) = ((2 ^ k : Nat) : Int):=by
  have hp:=pow_lt k h
  have e : (2 : Int) ^ k = ((2 ^ k : Nat) : Int):=by simp
  rw [e,IntKind.wrap_u64]
  generalize 2 ^ k = x at hp
  omega
def allR (n : Int) : Nat:=if 0 ≤ n ∧ n ≤ 64 then 2 ^ n.toNat - 1 else 0
def allE (n : Int) : Int:=if 0 ≤ n ∧ n ≤ 64 then 0 else 3
theorem user_any (u : Int) (w : World) : Calls Tryz.prog 159 #[.int .i64 u] w fun e w' => e = .returned (.bool (decide (0 ≤ u ∧ u < 64))) ∧ w = w':=by
  by_cases a : 0 ≤ u <;> by_cases b : u < 64
  all_goals
    go_enter Tryz.func159,Tryz.ntmps159
    go_wp2_with fail
    go_ret
    simp [a,b]
theorem bit_any (u : Int) (w : World) (h0 : 0 ≤ u) (h1 : u < 64) : Calls Tryz.prog 158 #[.int .i64 u] w fun e w' => e = .returned (.int .u64 (2 ^ u.toNat : Nat)) ∧ w = w':=by
  have hw:=wrap_pow u.toNat (by omega)
  have hu : IntKind.u64.wrap u = u:=by rw [IntKind.wrap_u64]; omega
  go_enter Tryz.func158,Tryz.ntmps158
  go_wp2_with fail
  go_ret
  refine ⟨?_,rfl⟩
  simp
theorem and_bit (s k : Nat) : (s &&& 2 ^ k = 0) ↔ s.testBit k = false:=by
  constructor
  · intro h
    have:=congrArg (fun x => x.testBit k) h
    simpa [Nat.testBit_and] using this
  · intro h
    apply Nat.eq_of_testBit_eq
    intro i
    by_cases e : k = i
    · subst e; simp [Nat.testBit_and,h]
    · simp [Nat.testBit_and,e]
theorem has_and (s k : Nat) (hs : s < 18446744073709551616) (h : k < 64) : (!(bits BinOp.and IntKind.u64 (s : Int) ((2 ^ k : Nat) : Int) == 0)) = s.testBit k:=by
  rw [u64_and_nat s (2 ^ k) hs (pow_lt k h)]
  have hb:=and_bit s k
  generalize s &&& 2 ^ k = x at hb
  cases hc : s.testBit k
  · simp [hb.2 hc]
  · have : x ≠ 0:=fun e => by have:=hb.1 e; rw [hc] at this; cases this
    simp
    exact this
theorem ref_has (s : Int) (u : Int) (w : World) (h0 : 0 ≤ s) (h1 : s < 18446744073709551616) :
    Calls Tryz.prog 111 #[.int .u64 s,.int .i64 u] w fun e w' => e = .returned (.bool (hasB s.toNat u)) ∧ w = w':=by
  obtain ⟨s,rfl⟩:=Int.eq_ofNat_of_zero_le h0
  rw [Int.toNat_natCast]
  go_enter Tryz.func111,Tryz.ntmps111
  go_wp2_with fail
  refine (user_any u w).mono ?_
  rintro e w' ⟨rfl,rfl⟩
  by_cases hu : 0 ≤ u ∧ u < 64
  · have hd : decide (0 ≤ u ∧ u < 64) = true:=by simpa using hu
    rw [hd]
    go_wp2_with fail
    refine (bit_any u w hu.1 hu.2).mono ?_
    rintro e w' ⟨rfl,rfl⟩
    go_wp2_with fail
    go_ret
    refine ⟨?_,rfl⟩
    have ha:=has_and s u.toNat (by omega) (by omega)
    rw [hasB,hd]
    rw [Bool.true_and,← ha]
    rfl
  · have hd : decide (0 ≤ u ∧ u < 64) = false:=by simpa using hu
    rw [hd]
    go_wp2_with fail
    go_ret
    simp [hasB,hd]
theorem all_step (k : Nat) : (2 ^ k - 1) ||| 2 ^ k = 2 ^ (k + 1) - 1:=by
  apply Nat.eq_of_testBit_eq
  intro i
  simp only [Nat.testBit_or,Nat.testBit_two_pow_sub_one,Nat.testBit_two_pow]
  rw [Bool.eq_iff_iff]
  simp
  omega
theorem all_word_lt (k : Nat) (h : k ≤ 64) : 2 ^ k - 1 < 18446744073709551616:=by
  have : 2 ^ k ≤ 2 ^ 64:=Nat.pow_le_pow_right (by omega) h
  omega
set_option maxRecDepth 100000 in
theorem ref_all (n : Int) (w : World) :
    Calls Tryz.prog 110 #[.int .i64 n] w fun e w' => e = .returned (.tuple #[.int .u64 (allR n : Nat),.int .i64 (allE n)]) ∧ w = w':=by
  by_cases a0 : 0 ≤ n
  · by_cases a1 : n ≤ 64
    · go_enter Tryz.func110,Tryz.ntmps110
      go_wp2_with fail
      go_loop [4,5] (fun s i => ∃ k : Nat,k ≤ n ∧ i = .int .i64 k ∧ s = .int .u64 (2 ^ k - 1 : Nat)) (fun _ i => n.toNat - (intOf i).toNat)
      case atStart => exact ⟨0,by omega,rfl,rfl⟩
      case round =>
        obtain ⟨k,hk,rfl,rfl⟩:=hrel
        by_cases hlt : (k : Int) < n
        · have ho:=u64_or_nat (2 ^ k - 1) (2 ^ k) (all_word_lt k (by omega)) (pow_lt k (by omega))
          rw [all_step] at ho
          go_wp2_with fail
          refine (bit_any _ _ (by omega) (by omega)).mono ?_
          rintro e w' ⟨rfl,rfl⟩
          rw [Int.toNat_natCast]
          go_wp2_with fail
          go_round
          case rel => exact ⟨k + 1,by omega,by go_num,by rw [← ho]; simp⟩
          case measure => simp [intOf]; omega
        · have hke : n = k:=by omega
          subst hke
          go_wp2_with fail
          refine bodyPost_ret (v:=.tuple #[.int .u64 ((2 ^ k - 1 : Nat) : Int),.int .i64 0]) (by simp [results,Tryz.results110,go_sem]) rfl ⟨?_,rfl⟩
          rw [allR,allE,if_pos (by omega),if_pos (by omega),Int.toNat_natCast]
    · go_enter Tryz.func110,Tryz.ntmps110
      go_wp2_with fail
      exact bodyPost_ret (v:=.tuple #[.int .u64 0,.int .i64 3]) (by simp [results,Tryz.results110,go_sem]) rfl ⟨by rw [allR,allE,if_neg (by omega),if_neg (by omega)]; rfl,rfl⟩
  · go_enter Tryz.func110,Tryz.ntmps110
    go_wp2_with fail
    exact bodyPost_ret (v:=.tuple #[.int .u64 0,.int .i64 3]) (by simp [results,Tryz.results110,go_sem]) rfl ⟨by rw [allR,allE,if_neg (by omega),if_neg (by omega)]; rfl,rfl⟩
end Go.Proofs.YtmalncmdfmoccaaGreatDoor
