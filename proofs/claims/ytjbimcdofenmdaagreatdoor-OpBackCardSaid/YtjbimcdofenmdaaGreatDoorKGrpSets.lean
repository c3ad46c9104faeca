/- Contracts of group.Of and All, and of the reference's User, Bit, Has, Of, All, Meet. Condition: the cells of the slices hold numbers of their types. Plain: the canonical text of a set: its words, one run after another. Plain: the canonical text of a set, word after word. -/
import Derived.Test.YtjbimcdofenmdaaGreatDoorKTz
import Derived.OpenShut
import Derived.Lib.Join
namespace Go.Proofs.YtjbimcdofenmdaaGreatDoor
open Go.RowKit
def ofR (f : Nat → Int) : Nat → Option Nat
  | 0 => some 0
  | k + 1 => match ofR f k with
    | none => none
    | some s => if 0 ≤ f k ∧ f k < 64 then some (s ||| 2 ^ (f k).toNat) else none
def ofE (f : Nat → Int) (n : Nat) : Int:=if (ofR f n).isSome then 0 else 3
theorem ofR_none (f : Nat → Int) (k n : Nat) (h : k ≤ n) (e : ofR f k = none) : ofR f n = none:=by
  induction n with
  | zero => obtain rfl : k = 0:=by omega
            exact e
  | succ n ih =>
    rcases Nat.lt_or_ge k (n + 1) with h1 | h1
    · rw [ofR,ih (by omega)]
    · obtain rfl : k = n + 1:=by omega
      exact e
theorem pow_lt (k : Nat) (h : k < 64) : 2 ^ k < 18446744073709551616:=Nat.pow_lt_pow_right (a:=2) (n:=64) (by omega) h
theorem or_lt {a b : Nat} (h : a < 18446744073709551616) (h2 : b < 18446744073709551616) : a ||| b < 18446744073709551616:=Nat.or_lt_two_pow (n:=64) h h2
theorem ofR_lt (f : Nat → Int) (n s : Nat) (e : ofR f n = some s) : s < 18446744073709551616:=by
  induction n generalizing s with
  | zero => obtain rfl : 0 = s:=by simpa [ofR] using e
            decide
  | succ n ih =>
    rw [ofR] at e
    cases h : ofR f n with
    | none => rw [h] at e; cases e
    | some t =>
      simp only [h] at e
      by_cases c : 0 ≤ f n ∧ f n < 64
      · rw [if_pos c] at e
        obtain rfl:=Option.some.inj e
        exact or_lt (ih _ h) (pow_lt _ (by omega))
      · rw [if_neg c] at e; cases e
theorem wrap_pow (k : Nat) (h : k < 64) : IntKind.u64.wrap ((2 : Int) ^ k) = ((2 ^ k : Nat) : Int):=by
  have hp:=pow_lt k h
  have e : (2 : Int) ^ k = ((2 ^ k : Nat) : Int):=by simp
  rw [e,IntKind.wrap_u64]
  generalize 2 ^ k = x at hp
  omega
theorem or_pow (t k : Nat) (ht : t < 18446744073709551616) (h : k < 64) : bits .or .u64 (t : Int) ((2 : Int) ^ k) = ((t ||| 2 ^ k : Nat) : Int):=by
  rw [show (2 : Int) ^ k = ((2 ^ k : Nat) : Int) from by simp]
  exact u64_or_nat t (2 ^ k) ht (pow_lt k h)
def allR (n : Int) : Nat:=if 0 ≤ n ∧ n ≤ 64 then 2 ^ n.toNat - 1 else 0
def allE (n : Int) : Int:=if 0 ≤ n ∧ n ≤ 64 then 0 else 3
theorem all_word (n : Int) (h0 : 0 ≤ n) (h1 : n ≤ 64) : IntKind.u64.wrap (IntKind.u64.wrap ((2 : Int) ^ n.toNat) - 1) = ((2 ^ n.toNat - 1 : Nat) : Int):=by
  generalize hk : n.toNat = k
  rcases Nat.lt_or_ge k 64 with h | h
  · have hp:=pow_lt k h
    have hq:=Nat.two_pow_pos k
    rw [wrap_pow k h,IntKind.wrap_u64]
    generalize 2 ^ k = x at hp hq
    omega
  · obtain rfl : k = 64:=by omega
    decide
theorem user_any (u : Int) (w : World) : Calls Tryz.prog 83 #[.int .i64 u] w fun e w' => e = .returned (.bool (decide (0 ≤ u ∧ u < 64))) ∧ w = w':=by
  by_cases a : 0 ≤ u <;> by_cases b : u < 64
  all_goals
    go_enter Tryz.func83,Tryz.ntmps83
    go_wp2_with fail
    go_ret
    simp [a,b]
theorem bit_any (u : Int) (w : World) (h0 : 0 ≤ u) (h1 : u < 64) : Calls Tryz.prog 82 #[.int .i64 u] w fun e w' => e = .returned (.int .u64 (2 ^ u.toNat : Nat)) ∧ w = w':=by
  have hw:=wrap_pow u.toNat (by omega)
  have hu : IntKind.u64.wrap u = u:=by rw [IntKind.wrap_u64]; omega
  go_enter Tryz.func82,Tryz.ntmps82
  go_wp2_with fail
  go_ret
  refine ⟨?_,rfl⟩
  simp
theorem and_bit (s k : Nat) : (s &&& 2 ^ k = 0) ↔ s.testBit k = false:=by
  constructor
  · intro h
    have:=congrArg (fun x => x.testBit k) h
    simpa [Nat.testBit_and] using this
  · intro h
    apply Nat.eq_of_testBit_eq
    intro i
    by_cases e : k = i
    · subst e; simp [Nat.testBit_and,h]
    · simp [Nat.testBit_and,e]
theorem has_and (s k : Nat) (hs : s < 18446744073709551616) (h : k < 64) : (!(bits BinOp.and IntKind.u64 (s : Int) ((2 ^ k : Nat) : Int) == 0)) = s.testBit k:=by
  rw [u64_and_nat s (2 ^ k) hs (pow_lt k h)]
  have hb:=and_bit s k
  generalize s &&& 2 ^ k = x at hb
  cases hc : s.testBit k
  · simp [hb.2 hc]
  · have : x ≠ 0:=fun e => by have:=hb.1 e; rw [hc] at this; cases this
    simp
    exact this
theorem ref_has (s : Int) (u : Int) (w : World) (h0 : 0 ≤ s) (h1 : s < 18446744073709551616) :
    Calls Tryz.prog 56 #[.int .u64 s,.int .i64 u] w fun e w' => e = .returned (.bool (hasB s.toNat u)) ∧ w = w':=by
  obtain ⟨s,rfl⟩:=Int.eq_ofNat_of_zero_le h0
  rw [Int.toNat_natCast]
  go_enter Tryz.func56,Tryz.ntmps56
  go_wp2_with fail
  refine (user_any u w).mono ?_
  rintro e w' ⟨rfl,rfl⟩
  by_cases hu : 0 ≤ u ∧ u < 64
  · have hd : decide (0 ≤ u ∧ u < 64) = true:=by simpa using hu
    rw [hd]
    go_wp2_with fail
    refine (bit_any u w hu.1 hu.2).mono ?_
    rintro e w' ⟨rfl,rfl⟩
    go_wp2_with fail
    go_ret
    refine ⟨?_,rfl⟩
    have ha:=has_and s u.toNat (by omega) (by omega)
    rw [hasB,hd]
    rw [Bool.true_and,← ha]
    rfl
  · have hd : decide (0 ≤ u ∧ u < 64) = false:=by simpa using hu
    rw [hd]
    go_wp2_with fail
    go_ret
    simp [hasB,hd]
theorem all_step (k : Nat) : (2 ^ k - 1) ||| 2 ^ k = 2 ^ (k + 1) - 1:=by
  apply Nat.eq_of_testBit_eq
  intro i
  simp only [Nat.testBit_or,Nat.testBit_two_pow_sub_one,Nat.testBit_two_pow]
  rw [Bool.eq_iff_iff]
  simp
  omega
theorem all_word_lt (k : Nat) (h : k ≤ 64) : 2 ^ k - 1 < 18446744073709551616:=by
  have : 2 ^ k ≤ 2 ^ 64:=Nat.pow_le_pow_right (by omega) h
  omega
set_option maxRecDepth 100000 in
theorem ref_all (n : Int) (w : World) :
    Calls Tryz.prog 55 #[.int .i64 n] w fun e w' => e = .returned (.tuple #[.int .u64 (allR n : Nat),.int .i64 (allE n)]) ∧ w = w':=by
  by_cases a0 : 0 ≤ n
  · by_cases a1 : n ≤ 64
    · go_enter Tryz.func55,Tryz.ntmps55
      go_wp2_with fail
      go_loop [4,5] (fun s i => ∃ k : Nat,k ≤ n ∧ i = .int .i64 k ∧ s = .int .u64 (2 ^ k - 1 : Nat)) (fun _ i => n.toNat - (intOf i).toNat)
      case atStart => exact ⟨0,by omega,rfl,rfl⟩
      case round =>
        obtain ⟨k,hk,rfl,rfl⟩:=hrel
        by_cases hlt : (k : Int) < n
        · have ho:=u64_or_nat (2 ^ k - 1) (2 ^ k) (all_word_lt k (by omega)) (pow_lt k (by omega))
          rw [all_step] at ho
          go_wp2_with fail
          refine (bit_any _ _ (by omega) (by omega)).mono ?_
          rintro e w' ⟨rfl,rfl⟩
          rw [Int.toNat_natCast]
          go_wp2_with fail
          go_round
          case rel => exact ⟨k + 1,by omega,by go_num,by rw [← ho]; simp⟩
          case measure => simp [intOf]; omega
        · have hke : n = k:=by omega
          subst hke
          go_wp2_with fail
          refine bodyPost_ret (v:=.tuple #[.int .u64 ((2 ^ k - 1 : Nat) : Int),.int .i64 0]) (by simp [results,Tryz.results55,go_sem]) rfl ⟨?_,rfl⟩
          rw [allR,allE,if_pos (by omega),if_pos (by omega),Int.toNat_natCast]
    · go_enter Tryz.func55,Tryz.ntmps55
      go_wp2_with fail
      exact bodyPost_ret (v:=.tuple #[.int .u64 0,.int .i64 3]) (by simp [results,Tryz.results55,go_sem]) rfl ⟨by rw [allR,allE,if_neg (by omega),if_neg (by omega)]; rfl,rfl⟩
  · go_enter Tryz.func55,Tryz.ntmps55
    go_wp2_with fail
    exact bodyPost_ret (v:=.tuple #[.int .u64 0,.int .i64 3]) (by simp [results,Tryz.results55,go_sem]) rfl ⟨by rw [allR,allE,if_neg (by omega),if_neg (by omega)]; rfl,rfl⟩
theorem bits_snoc1 (s k : Nat) (hb : s.testBit k = true) : bitsN s (k + 1) = bitsN s k ++ [(k : Int)]:=by simp [bitsN,hb]
theorem bits_snoc0 (s k : Nat) (hb : s.testBit k = false) : bitsN s (k + 1) = bitsN s k:=by simp [bitsN,hb]
end Go.Proofs.YtjbimcdofenmdaaGreatDoor
namespace Go.Proofs.YtjbimcdofenmdaaGreatDoor
open Go.RowKit
def EndsRun (s u v : Nat) : Prop:=u ≤ v ∧ (∀ i,u < i → i ≤ v → s.testBit i = true) ∧ s.testBit (v + 1) = false
def lastF (s : Nat) : Nat → Nat → Nat
  | 0,u => u
  | n + 1,u => if s.testBit (u + 1) then lastF s n (u + 1) else u
def lastS (s u : Nat) : Nat:=lastF s (64 - u) u
theorem over_bit (s k : Nat) (hs : s < 18446744073709551616) (hk : 64 ≤ k) : s.testBit k = false:=Nat.testBit_lt_two_pow (Nat.lt_of_lt_of_le hs (show 2 ^ 64 ≤ 2 ^ k from Nat.pow_le_pow_right (by omega) hk))
theorem lastF_ends (s : Nat) (hs : s < 18446744073709551616) (n u : Nat) (h : 64 ≤ n + u) : EndsRun s u (lastF s n u):=by
  induction n generalizing u with
  | zero => exact ⟨Nat.le_refl _,fun i h1 h2 => by simp only [lastF] at h2; omega,over_bit s _ hs (by simp only [lastF]; omega)⟩
  | succ n ih =>
    rw [lastF]
    split
    · next hb =>
      obtain ⟨a,b,c⟩:=ih (u + 1) (by omega)
      refine ⟨by omega,fun i h1 h2 => ?_,c⟩
      rcases Nat.lt_or_ge (u + 1) i with h3 | h3
      · exact b i h3 h2
      · obtain rfl : i = u + 1:=by omega
        exact hb
    · next hb => exact ⟨Nat.le_refl _,fun i h1 h2 => by omega,by simpa using hb⟩
theorem ends_one (s u v v' : Nat) (h : EndsRun s u v) (h' : EndsRun s u v') : v = v':=by
  rcases Nat.lt_trichotomy v v' with c | c | c
  · have:=h'.2.1 (v + 1) (by have:=h.1; omega) (by omega)
    rw [h.2.2] at this; cases this
  · exact c
  · have:=h.2.1 (v' + 1) (by have:=h'.1; omega) (by omega)
    rw [h'.2.2] at this; cases this
theorem lastS_ends (s u : Nat) (hs : s < 18446744073709551616) : EndsRun s u (lastS s u):=lastF_ends s hs _ u (by omega)
theorem lastS_of (s u v : Nat) (hs : s < 18446744073709551616) (h : EndsRun s u v) : lastS s u = v:=ends_one s u _ _ (lastS_ends s u hs) h
theorem lastS_lt (s u : Nat) (hs : s < 18446744073709551616) (hu : u < 64) : lastS s u < 64:=by
  have h:=lastS_ends s u hs
  rcases Nat.lt_or_ge (lastS s u) 64 with c | c
  · exact c
  · have h1:=h.2.1 (lastS s u) (by omega) (Nat.le_refl _)
    rw [over_bit s _ hs c] at h1; cases h1
def dig2 (n : Nat) : List UInt8:=if n < 10 then [UInt8.ofNat (48 + n)] else [UInt8.ofNat (48 + n / 10),UInt8.ofNat (48 + n % 10)]
def wordF (u v : Nat) : List UInt8:=if v < u + 2 then dig2 u else dig2 u ++ 45 :: dig2 v
def wordsF (s : Nat) : Nat → Nat × List (List UInt8)
  | 0 => (0,[])
  | k + 1 =>
    if s.testBit k = true ∧ (wordsF s k).1 ≤ k then
      (if lastS s k < k + 2 then (wordsF s k).1 else lastS s k + 1,(wordsF s k).2 ++ [wordF k (lastS s k)])
    else wordsF s k
theorem wordsF_off (s k : Nat) (h : s.testBit k = false) : wordsF s (k + 1) = wordsF s k:=by rw [wordsF,if_neg (by simp [h])]
theorem wordsF_skip (s k : Nat) (h : k < (wordsF s k).1) : wordsF s (k + 1) = wordsF s k:=by rw [wordsF,if_neg (by omega)]
theorem wordsF_one (s k : Nat) (h : s.testBit k = true) (hn : (wordsF s k).1 ≤ k) (hl : lastS s k < k + 2) : wordsF s (k + 1) = ((wordsF s k).1,(wordsF s k).2 ++ [dig2 k]):=by
  rw [wordsF,if_pos ⟨h,hn⟩,if_pos hl,wordF,if_pos hl]
theorem wordsF_run (s k : Nat) (h : s.testBit k = true) (hn : (wordsF s k).1 ≤ k) (hl : ¬ lastS s k < k + 2) : wordsF s (k + 1) = (lastS s k + 1,(wordsF s k).2 ++ [dig2 k ++ 45 :: dig2 (lastS s k)]):=by
  rw [wordsF,if_pos ⟨h,hn⟩,if_neg hl,wordF,if_neg hl]
theorem wordsF_to (s k m : Nat) (hk : k ≤ m) (hm : m ≤ (wordsF s k).1) : wordsF s m = wordsF s k:=by
  induction m with
  | zero => obtain rfl : k = 0:=by omega
            rfl
  | succ m ih =>
    rcases Nat.lt_or_ge k (m + 1) with h | h
    · have e:=ih (by omega) (by omega)
      rw [wordsF_skip s m (by rw [e]; omega),e]
    · obtain rfl : k = m + 1:=by omega
      rfl
end Go.Proofs.YtjbimcdofenmdaaGreatDoor
namespace Go.Proofs.YtjbimcdofenmdaaGreatDoor
open Go.RowKit
def textW (s k : Nat) : List UInt8:=Lib.join (wordsF s k).2 [44]
def gfmtL (s : Nat) : List UInt8:=if s = 0 then [45] else if s = 18446744073709551615 then [42] else textW s 64
theorem join_snoc (ws : List (List UInt8)) (x sep : List UInt8) (h : ws ≠ []) : Lib.join (ws ++ [x]) sep = Lib.join ws sep ++ (sep ++ x):=by
  cases ws with
  | nil => exact absurd rfl h
  | cons y r => rw [List.cons_append,Lib.join_cons,Lib.join_cons]; simp [Lib.joinTail,List.append_assoc]
theorem dig2_ne (n : Nat) : dig2 n ≠ []:=by unfold dig2; split <;> simp
theorem wordF_ne (u v : Nat) : wordF u v ≠ []:=by unfold wordF; split <;> simp [dig2_ne]
theorem wordsF_ne (s k : Nat) : ∀ x ∈ (wordsF s k).2,x ≠ []:=by
  induction k with
  | zero => intro x hx; cases hx
  | succ k ih =>
    intro x hx
    rw [wordsF] at hx
    split at hx
    · rcases List.mem_append.1 hx with hx | hx
      · exact ih x hx
      · rw [List.mem_singleton] at hx; subst hx; exact wordF_ne _ _
    · exact ih x hx
theorem join_ne (ws : List (List UInt8)) (h : ∀ x ∈ ws,x ≠ []) (hw : ws ≠ []) : Lib.join ws [44] ≠ []:=by
  cases ws with
  | nil => exact absurd rfl hw
  | cons y r => rw [Lib.join_cons]; have:=h y (by simp); simp [this]
theorem textW_zero (s : Nat) : textW s 0 = []:=rfl
theorem textW_nil (s k : Nat) : textW s k = [] ↔ (wordsF s k).2 = []:=by
  constructor
  · intro h
    rcases Classical.em ((wordsF s k).2 = []) with c | c
    · exact c
    · exact absurd h (join_ne _ (wordsF_ne s k) c)
  · intro h; rw [textW,h]; rfl
def addW (t x : List UInt8) : List UInt8:=if t = [] then x else t ++ 44 :: x
theorem textW_add (s k m : Nat) (x : List UInt8) (h : (wordsF s m).2 = (wordsF s k).2 ++ [x]) : textW s m = addW (textW s k) x:=by
  rw [textW,h,addW]
  split
  · next h0 => rw [(textW_nil s k).1 h0]; exact Lib.join_one _ _
  · next h0 =>
    rw [join_snoc _ _ _ (fun e => h0 ((textW_nil s k).2 e))]
    rfl
theorem text_one (s j : Nat) (hb : s.testBit j = true) (hn : (wordsF s j).1 ≤ j) (hl : lastS s j < j + 2) : textW s (j + 1) = addW (textW s j) (dig2 j) ∧ (wordsF s (j + 1)).1 ≤ j + 1:=by
  have e:=wordsF_one s j hb hn hl
  exact ⟨textW_add s j (j + 1) _ (by rw [e]),by rw [e]; exact Nat.le_succ_of_le hn⟩
theorem text_run (s j : Nat) (hb : s.testBit j = true) (hn : (wordsF s j).1 ≤ j) (hl : ¬ lastS s j < j + 2) : textW s (lastS s j + 1) = addW (textW s j) (dig2 j ++ 45 :: dig2 (lastS s j)) ∧ (wordsF s (lastS s j + 1)).1 ≤ lastS s j + 1:=by
  have e:=wordsF_run s j hb hn hl
  have e2 : wordsF s (lastS s j + 1) = wordsF s (j + 1):=wordsF_to s (j + 1) (lastS s j + 1) (by omega) (by rw [e]; exact Nat.le_refl _)
  exact ⟨textW_add s j (lastS s j + 1) _ (by rw [e2,e]),by rw [e2,e]; exact Nat.le_refl _⟩
theorem dig2_len (n : Nat) : (dig2 n).length ≤ 2:=by unfold dig2; split <;> simp
theorem wordF_len (u v : Nat) : (wordF u v).length ≤ 5:=by
  have h1:=dig2_len u
  have h2:=dig2_len v
  unfold wordF
  split
  · omega
  · simp; omega
theorem addW_len (t x : List UInt8) : (addW t x).length ≤ t.length + x.length + 1:=by
  unfold addW
  split
  · omega
  · simp; omega
theorem textW_len (s k : Nat) : (textW s k).length ≤ 6 * k:=by
  induction k with
  | zero => exact Nat.le_refl _
  | succ k ih =>
    by_cases c : s.testBit k = true ∧ (wordsF s k).1 ≤ k
    · rw [textW_add s k (k + 1) (wordF k (lastS s k)) (by rw [wordsF,if_pos c])]
      have h1:=addW_len (textW s k) (wordF k (lastS s k))
      have h2:=wordF_len k (lastS s k)
      omega
    · rw [textW,wordsF,if_neg c]
      have : (Lib.join (wordsF s k).2 [44]).length ≤ 6 * k:=ih
      omega
end Go.Proofs.YtjbimcdofenmdaaGreatDoor
