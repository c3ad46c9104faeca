/- How long numbers and operators are as text. The contracts of parse.Binds and of the tree's tables. The contract of tree.Function. The contract of tree.names and tree.Function. Plain: the canonical tokens of a tree, and that they are parsed back. No program stands here. -/
import Derived.Test.YtmalncmdfmoccaaGreatDoorCLexP
import Derived.Test.YtmalncmdfmoccaaGreatDoorCDecF
import Derived.Test.YtmalncmdfmoccaaGreatDoorCRefC
import Derived.Laws.Strings3
import Derived.Test.YtmalncmdfmoccaaGreatDoorCParK
namespace Go.Proofs.YtmalncmdfmoccaaGreatDoor
open Go.RowKit
open Go.Lib (decDigits)
theorem trimZ_len (l : List UInt8) : (trimZ l).length ≤ l.length:=by
  unfold trimZ
  rw [List.length_reverse]
  refine Nat.le_trans (List.dropWhile_suffix _).length_le ?_
  rw [List.length_reverse]
  exact Nat.le_refl _
theorem decS_len (n : Int) (h1 : -9223372036854775808 ≤ n) (h2 : n ≤ 9223372036854775807) : (decS n).length ≤ 60:=by
  unfold decS
  have e1:=digits_le (n.natAbs / 10000) (by omega)
  have e2:=digits_le (10000 + n.natAbs % 10000) (by omega)
  have e3:=trimZ_len ((decDigits (10000 + n.natAbs % 10000)).drop 1)
  rw [List.length_drop] at e3
  rw [List.length_append,List.length_append]
  have e4 : (if n < 0 then [45] else [] : List UInt8).length ≤ 1:=by split <;> simp
  have e5 : (if n.natAbs % 10000 = 0 then [] else 46 :: trimZ ((decDigits (10000 + n.natAbs % 10000)).drop 1) : List UInt8).length ≤ 21:=by
    split
    · simp
    · rw [List.length_cons]; omega
  omega
end Go.Proofs.YtmalncmdfmoccaaGreatDoor
namespace Go.Proofs.YtmalncmdfmoccaaGreatDoor
open Go.RowKit
end Go.Proofs.YtmalncmdfmoccaaGreatDoor
namespace Go.Proofs.YtmalncmdfmoccaaGreatDoor
open Go.RowKit
end Go.Proofs.YtmalncmdfmoccaaGreatDoor
namespace Go.Proofs.YtmalncmdfmoccaaGreatDoor
open Go.RowKit
end Go.Proofs.YtmalncmdfmoccaaGreatDoor
namespace Go.Proofs.YtmalncmdfmoccaaGreatDoor
def Fol (u : List Tk) (k : Nat) : Prop:=∀ t r,u = t :: r → ¬ (t.kind = 8 ∧ k < bindS t.num)
theorem Fol.mono {u : List Tk} {k l : Nat} (h : Fol u k) (hl : k ≤ l) : Fol u l:=fun t r e g => h t r e ⟨g.1,by omega⟩
theorem Fol.nil (k : Nat) : Fol [] k:=fun t r e => by cases e
theorem Fol.cons {t : Tk} {r : List Tk} {k : Nat} (h : ¬ (t.kind = 8 ∧ k < bindS t.num)) : Fol (t :: r) k:=fun t2 r2 e => by obtain ⟨rfl,rfl⟩:=List.cons.inj e; exact h
def PrP (ts : List Tk) (ns : List Nd) : Prop:=∃ n,∀ u,Pk .pr (ts ++ u) u ns n
def PcP (ts : List Tk) (ns : List Nd) : Prop:=∃ ts0 qs ns0,ts = ts0 ++ qs ∧ ns = ns0 ++ List.replicate qs.length ndPct ∧ (∀ q ∈ qs,q.kind = 8 ∧ q.num = 13) ∧ PrP ts0 ns0
def SgP (ts : List Tk) (ns : List Nd) : Prop:=∀ u,Fol u 5 → ∃ n,Pk .sg (ts ++ u) u ns n
def CtP (k : Nat) (ts : List Tk) (ns : List Nd) : Prop:=∀ u v ms m,Fol u k → Pk (.ops k) u v ms m → Pk (.lv k) (ts ++ u) v (ns ++ ms) m
def Str (l : Nat) (ts : List Tk) (ns : List Nd) : Prop:=(7 ≤ l → PcP ts ns) ∧ (5 ≤ l → SgP ts ns) ∧ ∀ k,1 ≤ k → k ≤ 4 → k ≤ l → CtP k ts ns
theorem pr_hd {ts u : List Tk} {ns : List Nd} {n : Nat} (h : Pk .pr ts u ns n) : isOp ts 2 = false:=by
  cases h <;> simp [isOp] <;> omega
theorem pct_all (qs u : List Tk) (hq : ∀ q ∈ qs,q.kind = 8 ∧ q.num = 13) (hu : Fol u 6) : pctS (qs ++ u) = (u,qs.length):=by
  induction qs with
  | nil =>
    cases u with
    | nil => rfl
    | cons t r =>
      have:=hu t r rfl
      show pctS (t :: r) = _
      rw [pctS,if_neg]
      · rfl
      · rintro ⟨h8,h13⟩
        exact this ⟨h8,by rw [h13]; decide⟩
  | cons q qs ih =>
    show pctS (q :: (qs ++ u)) = _
    rw [pctS,if_pos (hq q (by simp)),ih fun x hx => hq x (by simp [hx])]
    rfl
theorem PcP.pc {ts : List Tk} {ns : List Nd} (h : PcP ts ns) (u : List Tk) (hu : Fol u 6) : ∃ n,Pk .pc (ts ++ u) u ns n ∧ isOp (ts ++ u) 2 = false:=by
  obtain ⟨ts0,qs,ns0,rfl,rfl,hq,n,hp⟩:=h
  have h1:=hp (qs ++ u)
  have h2:=Pk.pc h1
  rw [pct_all qs u hq hu] at h2
  exact ⟨0,by rw [List.append_assoc]; exact h2,by rw [List.append_assoc]; exact pr_hd h1⟩
theorem fol_op {u : List Tk} {k : Nat} {op : Int} (h : Fol u k) (hk : k < bindS op) : isOp u op = false:=by
  cases u with
  | nil => rfl
  | cons t r =>
    cases hq : isOp (t :: r) op with
    | false => rfl
    | true =>
      simp only [isOp,decide_eq_true_eq] at hq
      exact absurd ⟨hq.1,by rw [hq.2]; exact hk⟩ (h t r rfl)
theorem PcP.sg {ts : List Tk} {ns : List Nd} (h : PcP ts ns) : SgP ts ns:=fun u hu => by
  obtain ⟨n,h1,h2⟩:=h.pc u (hu.mono (by decide))
  exact ⟨0,.bare h2 h1 (fol_op hu (by decide))⟩
theorem PrP.pc {ts : List Tk} {ns : List Nd} (h : PrP ts ns) : PcP ts ns:=⟨ts,[],ns,by simp,by simp,by simp,h⟩
theorem ops_stop (u : List Tk) (k j : Nat) (h : Fol u k) (hj : k < j) : Pk (.ops j) u u [] 0:=by
  cases u with
  | nil => exact .nil
  | cons t r => exact .stop fun g => h t r rfl ⟨g.1,by omega⟩
theorem SgP.up {ts : List Tk} {ns : List Nd} (h : SgP ts ns) (u : List Tk) (hu : Fol u 4) : ∃ n,Pk (.lv 5) (ts ++ u) u ns n:=by
  obtain ⟨n,g⟩:=h u (hu.mono (by decide))
  exact ⟨n,.lv5 (Nat.le_refl _) g⟩
theorem CtP.up {ts : List Tk} {ns : List Nd} {k : Nat} (h : CtP (k + 1) ts ns) (u : List Tk) (hu : Fol u k) : ∃ n,Pk (.lv (k + 1)) (ts ++ u) u ns n:=by
  have g:=h u u [] 0 (hu.mono (by omega)) (ops_stop u k (k + 1) hu (by omega))
  rw [List.append_nil] at g
  exact ⟨0,g⟩
theorem ct_of {ts : List Tk} {ns : List Nd} {k : Nat} (hk : k ≤ 4) (h : ∀ u,Fol u k → ∃ n,Pk (.lv (k + 1)) (ts ++ u) u ns n) : CtP k ts ns:=fun u v ms m hu g => by
  obtain ⟨n,h1⟩:=h u hu
  exact .lv (by omega) h1 g
theorem CtP.down {ts : List Tk} {ns : List Nd} {k : Nat} (h : CtP k ts ns) (hk : k ≤ 4) : ∀ d j,j + d = k → CtP j ts ns
  | 0,j,e => by
    obtain rfl : j = k:=by omega
    exact h
  | d + 1,j,e => ct_of (by omega) (fun u hu => (CtP.down h hk d (j + 1) (by omega)).up u hu)
theorem SgP.ct {ts : List Tk} {ns : List Nd} (h : SgP ts ns) (k : Nat) (hk : k ≤ 4) : CtP k ts ns :=
  (ct_of (k:=4) (Nat.le_refl _) (fun u hu => h.up u hu)).down (Nat.le_refl _) (4 - k) k (by omega)
theorem Str.mono {ts : List Tk} {ns : List Nd} {l s : Nat} (h : Str s ts ns) (hl : l ≤ s) : Str l ts ns:=⟨fun g => h.1 (by omega),fun g => h.2.1 (by omega),fun k h1 h4 hk => h.2.2 k h1 h4 (by omega)⟩
theorem Str.up {ts : List Tk} {ns : List Nd} {k : Nat} (h : Str (k + 1) ts ns) (h4 : k ≤ 4) (u : List Tk) (hu : Fol u k) : ∃ n,Pk (.lv (k + 1)) (ts ++ u) u ns n:=by
  by_cases e : k = 4
  · subst e; exact (h.2.1 (Nat.le_refl _)).up u hu
  · exact (h.2.2 (k + 1) (by omega) (by omega) (Nat.le_refl _)).up u hu
end Go.Proofs.YtmalncmdfmoccaaGreatDoor
