/- Plain: reading the text of a set: the program's reader (word after word), the reference's (byte after byte); both read the canonical text back. -/
import Derived.Test.YtmalncmdfmoccaaGreatDoorCGrpF
import Derived.Lib.SplitLaws
import Derived.Lib.AtoiAll
namespace Go.Proofs.YtmalncmdfmoccaaGreatDoor
open Go.RowKit
def runN (m u : Nat) : Nat → Nat
  | 0 => m
  | n + 1 => runN m u n ||| 2 ^ (u + n)
theorem runN_bit (m u n i : Nat) : (runN m u n).testBit i = (m.testBit i || decide (u ≤ i ∧ i < u + n)):=by
  induction n with
  | zero =>
    show m.testBit i = _
    rw [decide_eq_false (by omega),Bool.or_false]
  | succ n ih =>
    rw [runN,Nat.testBit_or,ih,Nat.testBit_two_pow]
    rcases Bool.eq_false_or_eq_true (m.testBit i) with hm | hm
    · simp [hm]
    · simp only [hm,Bool.false_or]
      rw [Bool.eq_iff_iff]
      simp only [Bool.or_eq_true,decide_eq_true_eq]
      omega
def userW (l : List UInt8) : Option Nat:=match Lib.atoiAll l with
  | .ok v => if 0 ≤ v ∧ v < 64 then some v.toNat else none
  | _ => none
def rightW (w : List UInt8) : List UInt8:=if (Lib.cut w [45]).2.2 then (Lib.cut w [45]).2.1 else (Lib.cut w [45]).1
def wordG (m : Nat) (w : List UInt8) : Option Nat:=match userW (Lib.cut w [45]).1,userW (rightW w) with
  | some a,some b => some (runN m a (b + 1 - a))
  | _,_ => none
theorem wordG_some (m : Nat) (w : List UInt8) (a b : Nat) (ha : userW (Lib.cut w [45]).1 = some a) (hb : userW (rightW w) = some b) : wordG m w = some (runN m a (b + 1 - a)):=by
  unfold wordG; rw [ha,hb]
def readG (ws : List (List UInt8)) : Option Nat:=ws.foldl (fun o w => o.bind fun m => wordG m w) (some 0)
theorem readG_nil : readG [] = some 0:=rfl
theorem readG_snoc (ws : List (List UInt8)) (w : List UInt8) : readG (ws ++ [w]) = (readG ws).bind fun m => wordG m w:=by simp [readG,List.foldl_append]
def gparseG (s : List UInt8) : Nat × Int :=
  if s = [45] then (0,0) else if s = [42] then (18446744073709551615,0) else
  match readG (Lib.split s [44]) with
  | none => (0,4)
  | some z => if gfmtL z = s then (z,0) else (0,4)
abbrev StR:=Nat × Option Nat × Option Nat
def gstepR (st : StR) (c : UInt8) : Option StR :=
  if 48 ≤ c.toNat ∧ c.toNat ≤ 57 then
    (if st.2.2.getD 0 * 10 + (c.toNat - 48) < 64 then some (st.1,st.2.1,some (st.2.2.getD 0 * 10 + (c.toNat - 48))) else none)
  else match st.2.2 with
  | none => none
  | some n => if c.toNat = 45 then some (st.1,some n,none) else if c.toNat = 44 then some (runN st.1 (st.2.1.getD n) (n + 1 - st.2.1.getD n),none,none) else none
def runR : StR → List UInt8 → Option StR
  | st,[] => some st
  | st,c :: r => (gstepR st c).bind fun st' => runR st' r
theorem runR_append (st : StR) (a b : List UInt8) : runR st (a ++ b) = (runR st a).bind fun st' => runR st' b:=by
  induction a generalizing st with
  | nil => rfl
  | cons c r ih =>
    rw [List.cons_append,runR,runR]
    cases gstepR st c with
    | none => rfl
    | some st' => exact ih st'
/- the canonical text is read back -/
theorem dig_nat (d : Nat) (h : d < 10) : (UInt8.ofNat (48 + d)).toNat = 48 + d:=by
  rw [UInt8.toNat_ofNat']; omega
theorem stepR_dig (m : Nat) (f o : Option Nat) (d : Nat) (hd : d < 10) (h : o.getD 0 * 10 + d < 64) : gstepR (m,f,o) (UInt8.ofNat (48 + d)) = some (m,f,some (o.getD 0 * 10 + d)):=by
  have e:=dig_nat d hd
  have e2 : 48 + d - 48 = d:=by omega
  unfold gstepR
  rw [e,if_pos (by omega)]
  simp only [e2]
  rw [if_pos h]
theorem runR_dig2 (m : Nat) (f : Option Nat) (u : Nat) (h : u < 64) : runR (m,f,none) (dig2 u) = some (m,f,some u):=by
  unfold dig2
  split
  · next h1 =>
    rw [runR,stepR_dig m f none u h1 (by show 0 * 10 + u < 64; omega)]
    show some (m,f,some (0 * 10 + u)) = _
    rw [show 0 * 10 + u = u from by omega]
  · next h1 =>
    rw [runR,stepR_dig m f none (u / 10) (by omega) (by show 0 * 10 + u / 10 < 64; omega)]
    show runR (m,f,some (0 * 10 + u / 10)) _ = _
    rw [runR,stepR_dig m f (some (0 * 10 + u / 10)) (u % 10) (by omega) (by show (0 * 10 + u / 10) * 10 + u % 10 < 64; omega)]
    show some (m,f,some ((0 * 10 + u / 10) * 10 + u % 10)) = _
    rw [show (0 * 10 + u / 10) * 10 + u % 10 = u from by omega]
theorem runR_one (m u : Nat) (h : u < 64) : runR (m,none,none) (dig2 u ++ [44]) = some (runN m u 1,none,none):=by
  rw [runR_append,runR_dig2 m none u h]
  show some (runN m u (u + 1 - u),none,none) = _
  rw [show u + 1 - u = 1 from by omega]
theorem runR_two (m u v : Nat) (hu : u < 64) (hv : v < 64) : runR (m,none,none) ((dig2 u ++ 45 :: dig2 v) ++ [44]) = some (runN m u (v + 1 - u),none,none):=by
  rw [List.append_assoc,runR_append,runR_dig2 m none u hu]
  show runR (m,some u,none) (dig2 v ++ [44]) = _
  rw [runR_append,runR_dig2 m (some u) v hv]
  rfl
theorem user_dig2 (u : Nat) (h : u < 64) : userW (dig2 u) = some u:=by
  have key : ∀ u : Fin 64,userW (dig2 u.1) = some u.1:=by decide +kernel
  exact key ⟨u,h⟩
theorem cut_dig2 (u : Nat) (h : u < 64) : Lib.cut (dig2 u) [45] = (dig2 u,[],false):=by
  have key : ∀ u : Fin 64,Lib.cut (dig2 u.1) [45] = (dig2 u.1,[],false):=by decide +kernel
  exact key ⟨u,h⟩
theorem cut_two (u : Nat) (r : List UInt8) (h : u < 64) : Lib.cut (dig2 u ++ 45 :: r) [45] = (dig2 u,r,true):=by
  have hn : ∀ c ∈ dig2 u,c ≠ 45:=by
    have key : ∀ u : Fin 64,∀ c ∈ dig2 u.1,c ≠ 45:=by decide +kernel
    exact key ⟨u,h⟩
  have hi : ∀ (x : List UInt8),(∀ c ∈ x,c ≠ 45) → Lib.index (x ++ 45 :: r) [45] = x.length:=by
    intro x
    induction x with
    | nil => intro _; simp [Lib.index,List.isPrefixOf]
    | cons c x ih =>
      intro hc
      have h1 : c ≠ 45:=hc c (by simp)
      have h2:=ih fun d hd => hc d (by simp [hd])
      have h3 : ¬ ((45 : UInt8) = c):=fun e => h1 e.symm
      rw [List.cons_append,Lib.index]
      simp only [List.isPrefixOf,beq_iff_eq,h3,if_false,h2,List.length_cons,Bool.and_true]
      rw [if_neg (by omega)]
      omega
  unfold Lib.cut
  rw [hi _ hn,if_pos (by omega)]
  simp
theorem wordG_wordF (m u v : Nat) (hu : u < 64) (hv : v < 64) : wordG m (wordF u v) = some (if v < u + 2 then runN m u 1 else runN m u (v + 1 - u)):=by
  unfold wordF
  split
  · next h =>
    rw [wordG_some m _ u u (by rw [cut_dig2 u hu]; exact user_dig2 u hu) (by unfold rightW; rw [cut_dig2 u hu]; exact user_dig2 u hu),show u + 1 - u = 1 from by omega]
  · next h =>
    rw [wordG_some m _ u v (by rw [cut_two u _ hu]; exact user_dig2 u hu) (by unfold rightW; rw [cut_two u _ hu]; exact user_dig2 v hv)]
theorem runR_wordF (m u v : Nat) (hu : u < 64) (hv : v < 64) : runR (m,none,none) (wordF u v ++ [44]) = some (if v < u + 2 then runN m u 1 else runN m u (v + 1 - u),none,none):=by
  unfold wordF
  split
  · next h => exact runR_one m u hu
  · next h => exact runR_two m u v hu hv
def flatW (ws : List (List UInt8)) : List UInt8:=ws.flatMap fun w => w ++ [44]
theorem flatW_snoc (ws : List (List UInt8)) (w : List UInt8) : flatW (ws ++ [w]) = flatW ws ++ (w ++ [44]):=by simp [flatW]
theorem read_words (s k : Nat) (hs : s < 18446744073709551616) (hk : k ≤ 64) :
    ∃ m,readG (wordsF s k).2 = some m ∧ runR (0,none,none) (flatW (wordsF s k).2) = some (m,none,none) ∧ ∀ i,m.testBit i = (s.testBit i && decide (i < max k (wordsF s k).1)):=by
  induction k with
  | zero => exact ⟨0,rfl,rfl,fun i => by simp [wordsF]⟩
  | succ k ih =>
    obtain ⟨m,h1,h2,h3⟩:=ih (by omega)
    cases hb : s.testBit k with
    | false =>
      rw [wordsF_off s k hb]
      refine ⟨m,h1,h2,fun i => ?_⟩
      rw [h3 i]
      by_cases c : i = k
      · subst c; simp [hb]
      · congr 1
        rw [decide_eq_decide]
        omega
    | true =>
      by_cases hn : (wordsF s k).1 ≤ k
      · have hl:=lastS_ends s k hs
        have hl64:=lastS_lt s k hs (by omega)
        by_cases hc : lastS s k < k + 2
        · have e:=wordsF_one s k hb hn hc
          have ew : dig2 k = wordF k (lastS s k):=by unfold wordF; rw [if_pos hc]
          rw [e]
          refine ⟨runN m k 1,?_,?_,fun i => ?_⟩
          · show readG ((wordsF s k).2 ++ [dig2 k]) = _
            rw [readG_snoc,h1,ew]
            show wordG m _ = _
            rw [wordG_wordF m k _ (by omega) hl64,if_pos hc]
          · show runR _ (flatW ((wordsF s k).2 ++ [dig2 k])) = _
            rw [flatW_snoc,runR_append,h2,ew]
            show runR _ _ = _
            rw [runR_wordF m k _ (by omega) hl64,if_pos hc]
          · rw [runN_bit,h3 i]
            by_cases c : i = k
            · subst c; simp [hb]; omega
            · have e1 : ¬ (k ≤ i ∧ i < k + 1):=by omega
              simp only [e1,decide_false,Bool.or_false]
              congr 1
              rw [decide_eq_decide]
              omega
        · have e:=wordsF_run s k hb hn hc
          have ew : dig2 k ++ 45 :: dig2 (lastS s k) = wordF k (lastS s k):=by unfold wordF; rw [if_neg hc]
          rw [e]
          refine ⟨runN m k (lastS s k + 1 - k),?_,?_,fun i => ?_⟩
          · show readG ((wordsF s k).2 ++ [_]) = _
            rw [readG_snoc,h1,ew]
            show wordG m _ = _
            rw [wordG_wordF m k _ (by omega) hl64,if_neg hc]
          · show runR _ (flatW ((wordsF s k).2 ++ [_])) = _
            rw [flatW_snoc,runR_append,h2,ew]
            show runR _ _ = _
            rw [runR_wordF m k _ (by omega) hl64,if_neg hc]
          · rw [runN_bit,h3 i]
            by_cases c : k ≤ i ∧ i < k + (lastS s k + 1 - k)
            · have hbi : s.testBit i = true:=by
                by_cases c2 : i = k
                · subst c2; exact hb
                · exact hl.2.1 i (by omega) (by omega)
              simp [c,hbi]; omega
            · simp only [c,decide_false,Bool.or_false]
              congr 1
              rw [decide_eq_decide]
              omega
      · rw [wordsF_skip s k (by omega)]
        refine ⟨m,h1,h2,fun i => ?_⟩
        rw [h3 i]
        congr 1
        rw [decide_eq_decide]
        omega
theorem read_all (s : Nat) (hs : s < 18446744073709551616) : readG (wordsF s 64).2 = some s ∧ runR (0,none,none) (flatW (wordsF s 64).2) = some (s,none,none):=by
  obtain ⟨m,h1,h2,h3⟩:=read_words s 64 hs (Nat.le_refl _)
  have : m = s:=by
    apply Nat.eq_of_testBit_eq
    intro i
    rw [h3 i]
    by_cases c : i < 64
    · have : i < max 64 (wordsF s 64).1:=by omega
      simp [this]
    · rw [over_bit s i hs (by omega)]; rfl
  subst this
  exact ⟨h1,h2⟩
theorem index_miss (x : List UInt8) (c : UInt8) (h : ∀ d ∈ x,d ≠ c) : Lib.index x [c] = -1:=by
  induction x with
  | nil => rfl
  | cons d x ih =>
    have h1 : d ≠ c:=h d (by simp)
    have h2:=ih fun e he => h e (by simp [he])
    have h3 : ¬ (c = d):=fun e => h1 e.symm
    rw [Lib.index]
    simp only [List.isPrefixOf,beq_iff_eq,h3,if_false,h2,Bool.and_true]
    rfl
theorem index_hit (x r : List UInt8) (c : UInt8) (h : ∀ d ∈ x,d ≠ c) : Lib.index (x ++ c :: r) [c] = x.length:=by
  induction x with
  | nil => simp [Lib.index,List.isPrefixOf]
  | cons d x ih =>
    have h1 : d ≠ c:=h d (by simp)
    have h2:=ih fun e he => h e (by simp [he])
    have h3 : ¬ (c = d):=fun e => h1 e.symm
    rw [List.cons_append,Lib.index]
    simp only [List.isPrefixOf,beq_iff_eq,h3,if_false,h2,List.length_cons,Bool.and_true]
    rw [if_neg (by omega)]
    omega
theorem splitK_hit (x r : List UInt8) (c : UInt8) (k : Nat) (h : ∀ d ∈ x,d ≠ c) : Lib.splitK [c] 0 (k + 1) (x ++ c :: r) = x :: Lib.splitK [c] 0 k r:=by
  rw [Lib.splitK,index_hit x r c h,if_neg (by rw [beq_iff_eq]; omega)]
  simp
theorem split_one (x : List UInt8) (c : UInt8) (h : ∀ d ∈ x,d ≠ c) : Lib.split x [c] = [x]:=by
  have : x.count c = 0:=List.count_eq_zero.2 fun hm => h c hm rfl
  rw [Lib.split,Lib.count_one,this]
  rfl
theorem split_more (x r : List UInt8) (c : UInt8) (h : ∀ d ∈ x,d ≠ c) : Lib.split (x ++ c :: r) [c] = x :: Lib.split r [c]:=by
  have : x.count c = 0:=List.count_eq_zero.2 fun hm => h c hm rfl
  rw [Lib.split,Lib.split,Lib.count_one,Lib.count_one,List.count_append,this,List.count_cons_self,Nat.zero_add]
  exact splitK_hit x r c _ h
theorem split_join (ws : List (List UInt8)) (c : UInt8) (hn : ws ≠ []) (h : ∀ w ∈ ws,∀ d ∈ w,d ≠ c) : Lib.split (Lib.join ws [c]) [c] = ws:=by
  induction ws with
  | nil => exact absurd rfl hn
  | cons x r ih =>
    cases r with
    | nil => rw [Lib.join_one]; exact split_one x c (h x (by simp))
    | cons y r =>
      have e : Lib.join (x :: y :: r) [c] = x ++ c :: Lib.join (y :: r) [c]:=by rw [Lib.join_cons,Lib.join_cons]; simp [Lib.joinTail]
      rw [e,split_more x _ c (h x (by simp)),ih (by simp) fun w hw => h w (by simp [List.mem_cons.1 hw])]
theorem dig2_44 (u : Nat) (h : u < 64) : ∀ d ∈ dig2 u,d ≠ 44:=by
  have key : ∀ u : Fin 64,∀ d ∈ dig2 u.1,d ≠ 44:=by decide +kernel
  exact key ⟨u,h⟩
theorem wordsF_44 (s k : Nat) (hs : s < 18446744073709551616) (hk : k ≤ 64) : ∀ w ∈ (wordsF s k).2,∀ d ∈ w,d ≠ 44:=by
  induction k with
  | zero => intro w hw; cases hw
  | succ k ih =>
    intro w hw
    rw [wordsF] at hw
    split at hw
    · rcases List.mem_append.1 hw with hw | hw
      · exact ih (by omega) w hw
      · rw [List.mem_singleton] at hw
        subst hw
        have hl64:=lastS_lt s k hs (by omega)
        unfold wordF
        split
        · exact dig2_44 k (by omega)
        · intro d hd
          rcases List.mem_append.1 hd with hd | hd
          · exact dig2_44 k (by omega) d hd
          · rcases List.mem_cons.1 hd with rfl | hd
            · decide
            · exact dig2_44 _ hl64 d hd
    · exact ih (by omega) w hw
theorem wordsF_some (s : Nat) (hs : s < 18446744073709551616) (h0 : s ≠ 0) : (wordsF s 64).2 ≠ []:=by
  intro e
  have:=(read_all s hs).1
  rw [e,readG_nil] at this
  exact h0 (Option.some.inj this).symm
theorem readG_text (s : Nat) (hs : s < 18446744073709551616) (h0 : s ≠ 0) : readG (Lib.split (textW s 64) [44]) = some s:=by
  rw [textW,split_join _ _ (wordsF_some s hs h0) (wordsF_44 s 64 hs (Nat.le_refl _))]
  exact (read_all s hs).1
theorem fmtL_mid (s : Nat) (h0 : s ≠ 0) (h1 : s ≠ 18446744073709551615) : gfmtL s = textW s 64:=by unfold gfmtL; rw [if_neg h0,if_neg h1]
theorem parseG_back (s : Nat) (hs : s < 18446744073709551616) : gparseG (gfmtL s) = (s,0):=by
  by_cases h0 : s = 0
  · subst h0; rfl
  by_cases h1 : s = 18446744073709551615
  · subst h1; rfl
  have e:=readG_text s hs h0
  rw [← fmtL_mid s h0 h1] at e
  have n1 : gfmtL s ≠ [45]:=fun c => by rw [c,show readG (Lib.split [45] [44]) = none from by decide +kernel] at e; cases e
  have n2 : gfmtL s ≠ [42]:=fun c => by rw [c,show readG (Lib.split [42] [44]) = none from by decide +kernel] at e; cases e
  unfold gparseG
  rw [if_neg n1,if_neg n2,e]
  simp
end Go.Proofs.YtmalncmdfmoccaaGreatDoor
