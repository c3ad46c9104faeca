/-  Contracts of group.Of and All, and of the reference's User, Bit, Has, Of, All, Meet. Condition: the cells of the slices hold numbers of their types. What the library's functions want of its variables: the table of TrailingZeros64, MaxLen, ErrSyntax, ErrRange; kept by whatever grows. Plain: the canonical text of a set: its words, one run after another. -/
import Derived.Test.YtmalncmdfmoccaaGreatDoorBShelf
import Derived.Test.YtmalncmdfmoccaaGreatDoorBRound
import Derived.OpenShut
import Derived.Test.YtmalncmdfmoccaaGreatDoorBMapK
import Derived.Test.YtmalncmdfmoccaaGreatDoorBTz
import Derived.Stop.LaidErr
import Derived.LaidLaws

namespace Go.Proofs.YtmalncmdfmoccaaGreatDoor
open Go.RowKit
end Go.Proofs.YtmalncmdfmoccaaGreatDoor
namespace Go.Proofs.YtmalncmdfmoccaaGreatDoor
open Go.RowKit
def Env (w : World) : Prop:=Bru w ∧ (∃ m,w.cell? ⟨1,0,none⟩ = some (.int .i64 m)) ∧ (∃ te pe,w.cell? ⟨6,0,none⟩ = some (.iface te pe)) ∧ ∃ te pe,w.cell? ⟨7,0,none⟩ = some (.iface te pe)
theorem Env.below {w w' : World} (h : Env w) (hb : Below w.heap.size w w') : Env w':=by
  obtain ⟨h1,⟨m,h2⟩,⟨t,p,h3⟩,t',p',h4⟩:=h
  exact ⟨h1.below hb (bru_lt h1),⟨m,cell_step hb h2⟩,⟨t,p,cell_step hb h3⟩,t',p',cell_step hb h4⟩
theorem err_star : "*" ++ "errors.errorString" = "*errors.errorString" := by decide
theorem err_row (u : TypeId) (h : Tryz.prog.typeName? 3 u = some "*errors.errorString") : u = 281 :=
  typeName_ptr_named (nm := "errors.errorString") (by rw [err_star]; kernel_rfl) (by kernel_rfl) (by decide) u (by rw [err_star]; exact h)
theorem err_cells : Tryz.prog.cellsOf 283 = 1:=by kernel_rfl
theorem str_cells : Tryz.prog.cellsOf 9 = 1:=by kernel_rfl
theorem syn_name : Tryz.prog.globalNamed "strconv.ErrSyntax" = some 6 := by kernel_rfl
theorem syn_type : (Tryz.prog.globals[6]?).map (·.type) = some 102:=by kernel_rfl
theorem rng_name : Tryz.prog.globalNamed "strconv.ErrRange" = some 7 := by kernel_rfl
theorem rng_type : (Tryz.prog.globals[7]?).map (·.type) = some 102:=by kernel_rfl
theorem env_of {W : World} {l : List (String × DataW Unit)} (h : laidMetH Tryz.prog l W) (hS : W.ShapedOpen Tryz.prog)
    (hl : l.filter (fun x => x.1 == "math/bits.deBruijn64tab") = [("math/bits.deBruijn64tab", Rows.laid_math_bits_deBruijn64tab)])
    (hs : l.filter (fun x => x.1 == "strconv.ErrSyntax") = [("strconv.ErrSyntax", Rows.laid_strconv_ErrSyntax)])
    (hr : l.filter (fun x => x.1 == "strconv.ErrRange") = [("strconv.ErrRange", Rows.laid_strconv_ErrRange)]) : Env W := by
  have h2 := h.filter (fun x => x.1 == "strconv.ErrSyntax")
  have h3 := h.filter (fun x => x.1 == "strconv.ErrRange")
  rw [hs] at h2
  rw [hr] at h3
  obtain ⟨a1,s1,hv1,_,_,_⟩:=laid_sentinel ((laidMetH_iff ..).1 h2).1 syn_name syn_type Tryz.underlying102 err_row Tryz.underlying281 Tryz.underlying283 rfl rfl Tryz.underlying9 err_cells str_cells
  obtain ⟨a2,s2,hv2,_,_,_⟩:=laid_sentinel ((laidMetH_iff ..).1 h3).1 rng_name rng_type Tryz.underlying102 err_row Tryz.underlying281 Tryz.underlying283 rfl rfl Tryz.underlying9 err_cells str_cells
  refine ⟨bru_of_laid h hl,Tryz.laysM145.s1_3 W hS,⟨_,_,by simpa using World.var?_cell syn_name hv1 0⟩,_,_,by simpa using World.var?_cell rng_name hv2 0⟩
end Go.Proofs.YtmalncmdfmoccaaGreatDoor
namespace Go.Proofs.YtmalncmdfmoccaaGreatDoor
open Go.RowKit
def EndsRun (s u v : Nat) : Prop:=u ≤ v ∧ (∀ i,u < i → i ≤ v → s.testBit i = true) ∧ s.testBit (v + 1) = false
def lastF (s : Nat) : Nat → Nat → Nat
  | 0,u => u
  | n + 1,u => if s.testBit (u + 1) then lastF s n (u + 1) else u
def lastS (s u : Nat) : Nat:=lastF s (64 - u) u
theorem over_bit (s k : Nat) (hs : s < 18446744073709551616) (hk : 64 ≤ k) : s.testBit k = false:=Nat.testBit_lt_two_pow (Nat.lt_of_lt_of_le hs (show 2 ^ 64 ≤ 2 ^ k from Nat.pow_le_pow_right (by omega) hk))
theorem lastF_ends (s : Nat) (hs : s < 18446744073709551616) (n u : Nat) (h : 64 ≤ n + u) : EndsRun s u (lastF s n u):=by
  induction n generalizing u with
  | zero => exact ⟨Nat.le_refl _,fun i h1 h2 => by simp only [lastF] at h2; omega,over_bit s _ hs (by simp only [lastF]; omega)⟩
  | succ n ih =>
    rw [lastF]
    split
    · next hb =>
      obtain ⟨a,b,c⟩:=ih (u + 1) (by omega)
      refine ⟨by omega,fun i h1 h2 => ?_,c⟩
      rcases Nat.lt_or_ge (u + 1) i with h3 | h3
      · exact b i h3 h2
      · obtain rfl : i = u + 1:=by omega
        exact hb
    · next hb => exact ⟨Nat.le_refl _,fun i h1 h2 => by omega,by simpa using hb⟩
theorem ends_one (s u v v' : Nat) (h : EndsRun s u v) (h' : EndsRun s u v') : v = v':=by
  rcases Nat.lt_trichotomy v v' with c | c | c
  · have:=h'.2.1 (v + 1) (by have:=h.1; omega) (by omega)
    rw [h.2.2] at this; cases this
  · exact c
  · have:=h.2.1 (v' + 1) (by have:=h'.1; omega) (by omega)
    rw [h'.2.2] at this; cases this
theorem lastS_ends (s u : Nat) (hs : s < 18446744073709551616) : EndsRun s u (lastS s u):=lastF_ends s hs _ u (by omega)
theorem lastS_of (s u v : Nat) (hs : s < 18446744073709551616) (h : EndsRun s u v) : lastS s u = v:=ends_one s u _ _ (lastS_ends s u hs) h
theorem lastS_lt (s u : Nat) (hs : s < 18446744073709551616) (hu : u < 64) : lastS s u < 64:=by
  have h:=lastS_ends s u hs
  rcases Nat.lt_or_ge (lastS s u) 64 with c | c
  · exact c
  · have h1:=h.2.1 (lastS s u) (by omega) (Nat.le_refl _)
    rw [over_bit s _ hs c] at h1; cases h1
def dig2 (n : Nat) : List UInt8:=if n < 10 then [UInt8.ofNat (48 + n)] else [UInt8.ofNat (48 + n / 10),UInt8.ofNat (48 + n % 10)]
def wordF (u v : Nat) : List UInt8:=if v < u + 2 then dig2 u else dig2 u ++ 45 :: dig2 v
def wordsF (s : Nat) : Nat → Nat × List (List UInt8)
  | 0 => (0,[])
  | k + 1 =>
    if s.testBit k = true ∧ (wordsF s k).1 ≤ k then
      (if lastS s k < k + 2 then (wordsF s k).1 else lastS s k + 1,(wordsF s k).2 ++ [wordF k (lastS s k)])
    else wordsF s k
theorem wordsF_off (s k : Nat) (h : s.testBit k = false) : wordsF s (k + 1) = wordsF s k:=by rw [wordsF,if_neg (by simp [h])]
theorem wordsF_skip (s k : Nat) (h : k < (wordsF s k).1) : wordsF s (k + 1) = wordsF s k:=by rw [wordsF,if_neg (by omega)]
theorem wordsF_one (s k : Nat) (h : s.testBit k = true) (hn : (wordsF s k).1 ≤ k) (hl : lastS s k < k + 2) : wordsF s (k + 1) = ((wordsF s k).1,(wordsF s k).2 ++ [dig2 k]):=by
  rw [wordsF,if_pos ⟨h,hn⟩,if_pos hl,wordF,if_pos hl]
theorem wordsF_run (s k : Nat) (h : s.testBit k = true) (hn : (wordsF s k).1 ≤ k) (hl : ¬ lastS s k < k + 2) : wordsF s (k + 1) = (lastS s k + 1,(wordsF s k).2 ++ [dig2 k ++ 45 :: dig2 (lastS s k)]):=by
  rw [wordsF,if_pos ⟨h,hn⟩,if_neg hl,wordF,if_neg hl]
end Go.Proofs.YtmalncmdfmoccaaGreatDoor
