/- Plain: the texts of ranges and of numbers are read as the tokens. No program stands here. Plain: the texts of numbers are read as the tokens. No program stands here. Plain: what dec.Parse makes of a number's text. No program stands here. -/
import Derived.Test.YtmalncmdfmoccaaGreatDoorBShL
import Derived.Test.YtmalncmdfmoccaaGreatDoorBDpP
import Derived.Test.YtmalncmdfmoccaaGreatDoorBShP
namespace Go.Proofs.YtmalncmdfmoccaaGreatDoor
open Go.RowKit
open Go.Lib (decDigits)
theorem Sep.colon {r : List UInt8} (h : Sep r) : secondS r = none:=by
  cases r with
  | nil => rfl
  | cons b r => rw [secondS,if_neg (sep_no b (h b r rfl)).2.2.2.2.1]
end Go.Proofs.YtmalncmdfmoccaaGreatDoor
namespace Go.Proofs.YtmalncmdfmoccaaGreatDoor
open Go.RowKit
open Go.Lib (decDigits)
theorem vD_snoc (l : List UInt8) (b : UInt8) : valD (l ++ [b]) = 10 * valD l + (b.toNat - 48):=by unfold valD; rw [List.foldl_append]; rfl
theorem vD_dig (l : List UInt8) (d : Nat) (h : d < 10) : valD (l ++ [UInt8.ofNat (48 + d)]) = 10 * valD l + d:=by
  rw [vD_snoc,UInt8.toNat_ofNat']; omega
theorem vD_dec (m : Nat) : valD (decDigits m) = m:=by
  induction m using Nat.strongRecOn with
  | _ u ih =>
    by_cases hu : u < 10
    · rw [decDigits,dif_pos hu]
      exact (vD_dig [] u hu).trans (by show 10 * 0 + u = u; omega)
    · rw [decDigits,dif_neg hu,vD_dig _ _ (by omega),ih (u / 10) (by omega)]; omega
theorem dD_step (m : Nat) (h : 10 ≤ m) : decDigits m = decDigits (m / 10) ++ [UInt8.ofNat (48 + m % 10)]:=by
  conv => lhs; rw [decDigits,dif_neg (by omega)]
def fourD (f : Nat) : List UInt8:=[UInt8.ofNat (48 + f / 1000),UInt8.ofNat (48 + f / 100 % 10),UInt8.ofNat (48 + f / 10 % 10),UInt8.ofNat (48 + f % 10)]
theorem four_eq (f : Nat) (h : f < 10000) : (decDigits (10000 + f)).drop 1 = fourD f:=by
  rw [dD_step _ (by omega),dD_step _ (by omega),dD_step _ (by omega),dD_step _ (by omega)]
  have e : (10000 + f) / 10 / 10 / 10 / 10 = 1:=by omega
  rw [e,show decDigits 1 = [49] from by rw [decDigits,dif_pos (by decide)]; rfl]
  unfold fourD
  rw [show (10000 + f) / 10 / 10 / 10 % 10 = f / 1000 by omega,show (10000 + f) / 10 / 10 % 10 = f / 100 % 10 by omega,show (10000 + f) / 10 % 10 = f / 10 % 10 by omega,show (10000 + f) % 10 = f % 10 by omega]
  rfl
theorem four_val (w : List UInt8) (f : Nat) (h : f < 10000) : valD (w ++ fourD f) = valD w * 10000 + f:=by
  unfold fourD
  rw [show ∀ a b c d : UInt8,w ++ [a,b,c,d] = (((w ++ [a]) ++ [b]) ++ [c]) ++ [d] from fun _ _ _ _ => by simp,vD_dig _ _ (by omega),vD_dig _ _ (by omega),vD_dig _ _ (by omega),vD_dig _ _ (by omega)]
  omega
theorem four_dig (f : Nat) (h : f < 10000) : ∀ b ∈ fourD f,isDig b = true:=by
  intro b hb
  unfold fourD at hb
  simp only [List.mem_cons,List.not_mem_nil,or_false] at hb
  rcases hb with rfl | rfl | rfl | rfl
  all_goals (show decide _ = true; rw [decide_eq_true_eq,UInt8.toNat_ofNat']; omega)
theorem trim_split (l : List UInt8) : ∃ j,l = trimZ l ++ List.replicate j 48:=by
  obtain ⟨h1,h2,-⟩:=run_split (· == 48) l.reverse
  refine ⟨(l.reverse.takeWhile (· == 48)).length,?_⟩
  have e : l.reverse.takeWhile (· == 48) = List.replicate (l.reverse.takeWhile (· == 48)).length 48:=List.eq_replicate_iff.2 ⟨rfl,fun b hb => by simpa using h2 b hb⟩
  have h3:=congrArg List.reverse h1
  rw [List.reverse_reverse,List.reverse_append] at h3
  conv => lhs; rw [h3]
  unfold trimZ
  congr 1
  conv => lhs; rw [e]
  rw [List.reverse_replicate]
theorem zeros_val (w : List UInt8) : valD (w ++ List.replicate 4 48) = valD w * 10000:=by
  have:=four_val w 0 (by decide)
  rw [show fourD 0 = List.replicate 4 48 from rfl] at this
  rw [this,Nat.add_zero]
end Go.Proofs.YtmalncmdfmoccaaGreatDoor
namespace Go.Proofs.YtmalncmdfmoccaaGreatDoor
open Go.RowKit
open Go.Lib (decDigits)
theorem len4 {p : List UInt8} {j : Nat} {f : Nat} (h : fourD f = p ++ List.replicate j 48) : p.length + j = 4:=by
  have:=congrArg List.length h
  rw [List.length_append,List.length_replicate] at this
  exact this.symm
theorem places4 {p : List UInt8} {j : Nat} (h : p.length + j = 4) : (p ++ zer5).take 4 = p ++ List.replicate j 48 ∧ upD p = false:=by
  match p,h with
  | [],h =>
    obtain rfl : j = 4:=by simpa using h
    exact ⟨rfl,rfl⟩
  | [a],h =>
    obtain rfl : j = 3:=by simp at h; omega
    exact ⟨rfl,rfl⟩
  | [a,b],h =>
    obtain rfl : j = 2:=by simp at h; omega
    exact ⟨rfl,rfl⟩
  | [a,b,c],h =>
    obtain rfl : j = 1:=by simp at h; omega
    exact ⟨rfl,rfl⟩
  | [a,b,c,d],h =>
    obtain rfl : j = 0:=by simp at h; omega
    exact ⟨rfl,rfl⟩
  | a :: b :: c :: d :: e :: r,h => simp at h; omega
theorem dec_cut (n : Int) : ∃ (b : UInt8) (w p : List UInt8) (j : Nat),isDig b = true ∧ decDigits (n.natAbs / 10000) = b :: w ∧ (∀ x ∈ b :: w,isDig x = true) ∧ p.length + j = 4 ∧ (∀ x ∈ p,isDig x = true) ∧ valD (b :: w ++ (p ++ List.replicate j 48)) = n.natAbs ∧
    decS n = (if n < 0 then [45] else []) ++ (b :: w) ++ if p = [] then [] else 46 :: p:=by
  obtain ⟨N,hN⟩ : ∃ N,n.natAbs = N:=⟨_,rfl⟩
  have hd : ∃ b w,decDigits (N / 10000) = b :: w:=by
    cases h : decDigits (N / 10000) with
    | nil => rw [decDigits] at h; split at h <;> simp at h
    | cons b w => exact ⟨b,w,rfl⟩
  obtain ⟨b,w,hd⟩:=hd
  have hq : ∀ x ∈ b :: w,isDig x = true:=by
    rw [← hd]
    exact fun x hx => List.all_eq_true.1 (dec_dig _) x hx
  have hv:=vD_dec (N / 10000)
  rw [hd] at hv
  unfold decS
  rw [hN,hd]
  by_cases h0 : N % 10000 = 0
  · refine ⟨b,w,[],4,hq b (by simp),rfl,hq,rfl,by simp,?_,?_⟩
    · rw [List.nil_append,zeros_val,hv]; omega
    · rw [if_pos h0,if_pos rfl]
  · rw [four_eq _ (by omega)]
    obtain ⟨j,hj⟩:=trim_split (fourD (N % 10000))
    have hne : trimZ (fourD (N % 10000)) ≠ []:=by
      intro g
      rw [g,List.nil_append] at hj
      have h1:=four_val [] (N % 10000) (by omega)
      have h2:=len4 (p:=[]) hj
      obtain rfl : j = 4:=by simpa using h2
      rw [hj] at h1
      have h3:=zeros_val []
      rw [h3] at h1
      exact h0 (by have : valD [] = 0:=rfl; omega)
    refine ⟨b,w,trimZ (fourD (N % 10000)),j,hq b (by simp),rfl,hq,len4 hj,?_,?_,?_⟩
    · intro x hx
      refine four_dig (N % 10000) (by omega) x ?_
      rw [hj]
      exact List.mem_append_left _ hx
    · rw [← hj,four_val _ _ (by omega),hv]; omega
    · rw [if_neg h0,if_neg hne]
theorem parD_dec (n : Int) (h1 : -9223372036854775807 ≤ n) (h2 : n ≤ 9223372036854775807) : parD (decS n) = (n,0):=by
  obtain ⟨b,w,p,j,hb,-,hq,hl,hp,hv,e⟩:=dec_cut n
  have hb45 : b ≠ 45:=by rintro rfl; exact absurd hb (by decide)
  have hu : unsgD (decS n) = (b :: w) ++ (if p = [] then [] else 46 :: p) ∧ ((decS n).head? = some 45 ↔ n < 0):=by
    rw [e]
    by_cases h : n < 0
    · rw [if_pos h]; exact ⟨rfl,fun _ => h,fun _ => rfl⟩
    · rw [if_neg h]
      refine ⟨?_,fun g => ?_,fun g => absurd g h⟩
      · show (if some b = some 45 then _ else _) = _
        rw [if_neg (by simpa using hb45)]; rfl
      · have g : some b = some 45:=g
        exact absurd (Option.some.inj g) hb45
  have hrest : stops isDig (if p = [] then [] else 46 :: p) = true:=by
    by_cases g : p = []
    · rw [if_pos g]; rfl
    · rw [if_neg g]; rfl
  obtain ⟨g1,g2⟩:=take_stop isDig _ _ hq hrest
  rw [← hu.1] at g1 g2
  have hpl : plcD (if p = [] then [] else 46 :: p) = some p:=by
    by_cases g : p = []
    · rw [if_pos g,g]; rfl
    · rw [if_neg g]
      exact if_pos ⟨rfl,g,List.all_eq_true.2 hp⟩
  rw [parD_ok (by rw [g1]; simp) (by rw [g2]; exact hpl),g1]
  have hm : magD (b :: w) p = n.natAbs:=by
    unfold magD
    obtain ⟨e1,e2⟩:=places4 hl
    rw [e1,e2,hv]; rfl
  rw [hm,if_pos (show n.natAbs ≤ mostN by unfold mostN; omega)]
  by_cases h : n < 0
  · rw [if_pos (hu.2.2 h)]
    congr 1
    omega
  · rw [if_neg fun g => h (hu.2.1 g)]
    congr 1
    omega
theorem decS_head (n : Int) : ∃ (b : UInt8) (r : List UInt8),decS n = b :: r ∧ 45 ≤ b.toNat ∧ b.toNat ≤ 57:=by
  obtain ⟨b,w,p,j,hb,-,-,-,-,-,e⟩:=dec_cut n
  by_cases h : n < 0
  · rw [if_pos h] at e
    exact ⟨45,_,e,by decide,by decide⟩
  · rw [if_neg h] at e
    have:=of_decide_eq_true hb
    exact ⟨b,_,e,by omega,this.2⟩
end Go.Proofs.YtmalncmdfmoccaaGreatDoor
