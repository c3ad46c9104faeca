/- The library's table of powers of ten, out of the row's list. Plain: the canonical text of a set: its words, one run after another. Plain: the canonical text of a set, word after word. The contract of the reference's digits. -/
import Derived.Test.YtmalncmdfmoccaaGreatDoorCAddrW3
import Derived.LaidSub
import Derived.Lib.Join
namespace Go.Proofs.YtmalncmdfmoccaaGreatDoor
open Go.RowKit
theorem pow_type : (Tryz.prog.globals[3]?).map (·.type) = some 246:=by kernel_rfl
theorem pow_cells : Tryz.prog.cellsOf 246 = 20:=by kernel_rfl
theorem u64_cells : Tryz.prog.cellsOf 50 = 1:=by kernel_rfl
theorem pow_of_one {W : World} (h : laidMet Tryz.prog [("internal/strconv.uint64pow10", Lib.tabData .u64 Lib.pow10Tab)] W) : Pow W :=
  Lib.tabIs_of_head gPow pow_type Tryz.underlying246 Tryz.underlying50 u64_cells pow_cells h
theorem pow_datum : (Rows.laid_internal_strconv_uint64pow10 : DataW Unit) = Lib.tabData .u64 Lib.pow10Tab:=by kernel_rfl
theorem pow_of_laid {W : World} {l : List (String × DataW Unit)} (h : laidMetH Tryz.prog l W)
    (hl : l.filter (fun x => x.1 == "internal/strconv.uint64pow10") = [("internal/strconv.uint64pow10", Rows.laid_internal_strconv_uint64pow10)]) : Pow W := by
  have h2 := h.filter (fun x => x.1 == "internal/strconv.uint64pow10")
  rw [hl,pow_datum] at h2
  exact pow_of_one h2
end Go.Proofs.YtmalncmdfmoccaaGreatDoor
namespace Go.Proofs.YtmalncmdfmoccaaGreatDoor
open Go.RowKit
def EndsRun (s u v : Nat) : Prop:=u ≤ v ∧ (∀ i,u < i → i ≤ v → s.testBit i = true) ∧ s.testBit (v + 1) = false
def lastF (s : Nat) : Nat → Nat → Nat
  | 0,u => u
  | n + 1,u => if s.testBit (u + 1) then lastF s n (u + 1) else u
def lastS (s u : Nat) : Nat:=lastF s (64 - u) u
theorem over_bit (s k : Nat) (hs : s < 18446744073709551616) (hk : 64 ≤ k) : s.testBit k = false:=Nat.testBit_lt_two_pow (Nat.lt_of_lt_of_le hs (show 2 ^ 64 ≤ 2 ^ k from Nat.pow_le_pow_right (by omega) hk))
theorem lastF_ends (s : Nat) (hs : s < 18446744073709551616) (n u : Nat) (h : 64 ≤ n + u) : EndsRun s u (lastF s n u):=by
  induction n generalizing u with
  | zero => exact ⟨Nat.le_refl _,fun i h1 h2 => by simp only [lastF] at h2; omega,over_bit s _ hs (by simp only [lastF]; omega)⟩
  | succ n ih =>
    rw [lastF]
    split
    · next hb =>
      obtain ⟨a,b,c⟩:=ih (u + 1) (by omega)
      refine ⟨by omega,fun i h1 h2 => ?_,c⟩
      rcases Nat.lt_or_ge (u + 1) i with h3 | h3
      · exact b i h3 h2
      · obtain rfl : i = u + 1:=by omega
        exact hb
    · next hb => exact ⟨Nat.le_refl _,fun i h1 h2 => by omega,by simpa using hb⟩
theorem ends_one (s u v v' : Nat) (h : EndsRun s u v) (h' : EndsRun s u v') : v = v':=by
  rcases Nat.lt_trichotomy v v' with c | c | c
  · have:=h'.2.1 (v + 1) (by have:=h.1; omega) (by omega)
    rw [h.2.2] at this; cases this
  · exact c
  · have:=h.2.1 (v' + 1) (by have:=h'.1; omega) (by omega)
    rw [h'.2.2] at this; cases this
theorem lastS_ends (s u : Nat) (hs : s < 18446744073709551616) : EndsRun s u (lastS s u):=lastF_ends s hs _ u (by omega)
theorem lastS_of (s u v : Nat) (hs : s < 18446744073709551616) (h : EndsRun s u v) : lastS s u = v:=ends_one s u _ _ (lastS_ends s u hs) h
theorem lastS_lt (s u : Nat) (hs : s < 18446744073709551616) (hu : u < 64) : lastS s u < 64:=by
  have h:=lastS_ends s u hs
  rcases Nat.lt_or_ge (lastS s u) 64 with c | c
  · exact c
  · have h1:=h.2.1 (lastS s u) (by omega) (Nat.le_refl _)
    rw [over_bit s _ hs c] at h1; cases h1
def dig2 (n : Nat) : List UInt8:=if n < 10 then [UInt8.ofNat (48 + n)] else [UInt8.ofNat (48 + n / 10),UInt8.ofNat (48 + n % 10)]
def wordF (u v : Nat) : List UInt8:=if v < u + 2 then dig2 u else dig2 u ++ 45 :: dig2 v
def wordsF (s : Nat) : Nat → Nat × List (List UInt8)
  | 0 => (0,[])
  | k + 1 =>
    if s.testBit k = true ∧ (wordsF s k).1 ≤ k then
      (if lastS s k < k + 2 then (wordsF s k).1 else lastS s k + 1,(wordsF s k).2 ++ [wordF k (lastS s k)])
    else wordsF s k
theorem wordsF_off (s k : Nat) (h : s.testBit k = false) : wordsF s (k + 1) = wordsF s k:=by rw [wordsF,if_neg (by simp [h])]
theorem wordsF_skip (s k : Nat) (h : k < (wordsF s k).1) : wordsF s (k + 1) = wordsF s k:=by rw [wordsF,if_neg (by omega)]
theorem wordsF_one (s k : Nat) (h : s.testBit k = true) (hn : (wordsF s k).1 ≤ k) (hl : lastS s k < k + 2) : wordsF s (k + 1) = ((wordsF s k).1,(wordsF s k).2 ++ [dig2 k]):=by
  rw [wordsF,if_pos ⟨h,hn⟩,if_pos hl,wordF,if_pos hl]
theorem wordsF_run (s k : Nat) (h : s.testBit k = true) (hn : (wordsF s k).1 ≤ k) (hl : ¬ lastS s k < k + 2) : wordsF s (k + 1) = (lastS s k + 1,(wordsF s k).2 ++ [dig2 k ++ 45 :: dig2 (lastS s k)]):=by
  rw [wordsF,if_pos ⟨h,hn⟩,if_neg hl,wordF,if_neg hl]
theorem wordsF_to (s k m : Nat) (hk : k ≤ m) (hm : m ≤ (wordsF s k).1) : wordsF s m = wordsF s k:=by
  induction m with
  | zero => obtain rfl : k = 0:=by omega
            rfl
  | succ m ih =>
    rcases Nat.lt_or_ge k (m + 1) with h | h
    · have e:=ih (by omega) (by omega)
      rw [wordsF_skip s m (by rw [e]; omega),e]
    · obtain rfl : k = m + 1:=by omega
      rfl
end Go.Proofs.YtmalncmdfmoccaaGreatDoor
namespace Go.Proofs.YtmalncmdfmoccaaGreatDoor
open Go.RowKit
def textW (s k : Nat) : List UInt8:=Lib.join (wordsF s k).2 [44]
def gfmtL (s : Nat) : List UInt8:=if s = 0 then [45] else if s = 18446744073709551615 then [42] else textW s 64
theorem join_snoc (ws : List (List UInt8)) (x sep : List UInt8) (h : ws ≠ []) : Lib.join (ws ++ [x]) sep = Lib.join ws sep ++ (sep ++ x):=by
  cases ws with
  | nil => exact absurd rfl h
  | cons y r => rw [List.cons_append,Lib.join_cons,Lib.join_cons]; simp [Lib.joinTail,List.append_assoc]
theorem dig2_ne (n : Nat) : dig2 n ≠ []:=by unfold dig2; split <;> simp
theorem wordF_ne (u v : Nat) : wordF u v ≠ []:=by unfold wordF; split <;> simp [dig2_ne]
theorem wordsF_ne (s k : Nat) : ∀ x ∈ (wordsF s k).2,x ≠ []:=by
  induction k with
  | zero => intro x hx; cases hx
  | succ k ih =>
    intro x hx
    rw [wordsF] at hx
    split at hx
    · rcases List.mem_append.1 hx with hx | hx
      · exact ih x hx
      · rw [List.mem_singleton] at hx; subst hx; exact wordF_ne _ _
    · exact ih x hx
theorem join_ne (ws : List (List UInt8)) (h : ∀ x ∈ ws,x ≠ []) (hw : ws ≠ []) : Lib.join ws [44] ≠ []:=by
  cases ws with
  | nil => exact absurd rfl hw
  | cons y r => rw [Lib.join_cons]; have:=h y (by simp); simp [this]
theorem textW_nil (s k : Nat) : textW s k = [] ↔ (wordsF s k).2 = []:=by
  constructor
  · intro h
    rcases Classical.em ((wordsF s k).2 = []) with c | c
    · exact c
    · exact absurd h (join_ne _ (wordsF_ne s k) c)
  · intro h; rw [textW,h]; rfl
def addW (t x : List UInt8) : List UInt8:=if t = [] then x else t ++ 44 :: x
theorem textW_add (s k m : Nat) (x : List UInt8) (h : (wordsF s m).2 = (wordsF s k).2 ++ [x]) : textW s m = addW (textW s k) x:=by
  rw [textW,h,addW]
  split
  · next h0 => rw [(textW_nil s k).1 h0]; exact Lib.join_one _ _
  · next h0 =>
    rw [join_snoc _ _ _ (fun e => h0 ((textW_nil s k).2 e))]
    rfl
theorem text_one (s j : Nat) (hb : s.testBit j = true) (hn : (wordsF s j).1 ≤ j) (hl : lastS s j < j + 2) : textW s (j + 1) = addW (textW s j) (dig2 j) ∧ (wordsF s (j + 1)).1 ≤ j + 1:=by
  have e:=wordsF_one s j hb hn hl
  exact ⟨textW_add s j (j + 1) _ (by rw [e]),by rw [e]; exact Nat.le_succ_of_le hn⟩
theorem text_run (s j : Nat) (hb : s.testBit j = true) (hn : (wordsF s j).1 ≤ j) (hl : ¬ lastS s j < j + 2) : textW s (lastS s j + 1) = addW (textW s j) (dig2 j ++ 45 :: dig2 (lastS s j)) ∧ (wordsF s (lastS s j + 1)).1 ≤ lastS s j + 1:=by
  have e:=wordsF_run s j hb hn hl
  have e2 : wordsF s (lastS s j + 1) = wordsF s (j + 1):=wordsF_to s (j + 1) (lastS s j + 1) (by omega) (by rw [e]; exact Nat.le_refl _)
  exact ⟨textW_add s j (lastS s j + 1) _ (by rw [e2,e]),by rw [e2,e]; exact Nat.le_refl _⟩
theorem dig2_len (n : Nat) : (dig2 n).length ≤ 2:=by unfold dig2; split <;> simp
theorem wordF_len (u v : Nat) : (wordF u v).length ≤ 5:=by
  have h1:=dig2_len u
  have h2:=dig2_len v
  unfold wordF
  split
  · omega
  · simp; omega
theorem addW_len (t x : List UInt8) : (addW t x).length ≤ t.length + x.length + 1:=by
  unfold addW
  split
  · omega
  · simp; omega
theorem textW_len (s k : Nat) : (textW s k).length ≤ 6 * k:=by
  induction k with
  | zero => exact Nat.le_refl _
  | succ k ih =>
    by_cases c : s.testBit k = true ∧ (wordsF s k).1 ≤ k
    · rw [textW_add s k (k + 1) (wordF k (lastS s k)) (by rw [wordsF,if_pos c])]
      have h1:=addW_len (textW s k) (wordF k (lastS s k))
      have h2:=wordF_len k (lastS s k)
      omega
    · rw [textW,wordsF,if_neg c]
      have : (Lib.join (wordsF s k).2 [44]).length ≤ 6 * k:=ih
      omega
end Go.Proofs.YtmalncmdfmoccaaGreatDoor
namespace Go.Proofs.YtmalncmdfmoccaaGreatDoor
open Go.RowKit
theorem enc_dig (m : Nat) (h : m < 10) : Utf8.encode (48 + (m : Int)) = ⟨#[UInt8.ofNat (48 + m)]⟩:=by
  have key : ∀ m : Fin 10,Utf8.encode (48 + ((m.1 : Nat) : Int)) = ⟨#[UInt8.ofNat (48 + m.1)]⟩:=by decide +kernel
  exact key ⟨m,h⟩
set_option maxRecDepth 100000 in
theorem ref_digits (n : Nat) (h : n < 64) (w : World) : Calls Tryz.prog 112 #[.int .i64 n] w fun e w' => e = .returned (.string ⟨(dig2 n).toArray⟩) ∧ w = w':=by
  by_cases hn : (n : Int) < 10
  · go_enter Tryz.func112,Tryz.ntmps112
    go_wp2_with fail
    go_ret
    refine ⟨?_,rfl⟩
    rw [dig2,if_pos (by omega)]
    show Ending.returned (.string _) = _
    rw [enc_dig n (by omega)]
  · obtain ⟨q,r,hq,hr,e,hn2⟩ : ∃ q r : Nat,q < 10 ∧ r < 10 ∧ n = 10 * q + r ∧ 1 ≤ q:=⟨n / 10,n % 10,by omega,by omega,by omega,by omega⟩
    have h1 : (n : Int).tdiv 10 = (q : Int):=by rw [Int.tdiv_eq_ediv_of_nonneg (by omega)]; omega
    have h2 : (n : Int).tmod 10 = (r : Int):=by rw [Int.tmod_eq_emod_of_nonneg (by omega)]; omega
    have h3 : dig2 n = [UInt8.ofNat (48 + q),UInt8.ofNat (48 + r)]:=by rw [dig2,if_neg (by omega),show n / 10 = q from by omega,show n % 10 = r from by omega]
    rw [h3]
    generalize hB : (⟨[UInt8.ofNat (48 + q),UInt8.ofNat (48 + r)].toArray⟩ : ByteArray) = B
    have HB:=keep hB
    clear hB
    have E:=keep (And.intro (enc_dig q hq) (enc_dig r hr))
    have hx : (n : Int) < 64:=by omega
    have hq' : (q : Int) < 10:=by omega
    have hr' : (r : Int) < 10:=by omega
    have hq0 : 0 ≤ (q : Int):=by omega
    have hr0 : 0 ≤ (r : Int):=by omega
    clear h3 e hn2 hq hr h
    generalize (n : Int) = x at *
    have s1 : (Utf8.encode (48 + (q : Int))).size = 1:=by rw [E.out.1]; rfl
    have s2 : (Utf8.encode (48 + (r : Int))).size = 1:=by rw [E.out.2]; rfl
    generalize (q : Int) = qi at *
    generalize (r : Int) = ri at *
    go_enter Tryz.func112,Tryz.ntmps112
    go_wp2_with fail
    go_ret
    refine ⟨?_,rfl⟩
    show Ending.returned (.string _) = _
    rw [E.out.1,E.out.2,← HB.out]
    rfl
end Go.Proofs.YtmalncmdfmoccaaGreatDoor
