/- Plain lemmas on addresses: what letters and digits say, and that reading and writing are inverse. No program stands here. -/
import Derived.Lib.ItoaNum
import Derived.Test.YtmalncmdfmoccaaGreatDoorCOk
namespace Go.Proofs.YtmalncmdfmoccaaGreatDoor
def letV (b : UInt8) : Nat:=if 65 ≤ b.toNat ∧ b.toNat ≤ 90 then b.toNat - 64 else if 97 ≤ b.toNat ∧ b.toNat ≤ 122 then b.toNat - 96 else 0
def isLet (b : UInt8) : Bool:=letV b != 0
def isDig (b : UInt8) : Bool:=decide (48 ≤ b.toNat ∧ b.toNat ≤ 57)
def stepC (n : Nat) (b : UInt8) : Nat:=min (26 * n + letV b) 1025
def stepR (n : Nat) (b : UInt8) : Nat:=min (10 * n + (b.toNat - 48)) 1025
def colOf (l : List UInt8) : Nat:=l.foldl stepC 0
def rowOf (l : List UInt8) : Nat:=l.foldl stepR 0
def parseS (l : List UInt8) : Int × Int × Int :=
  let a:=l.takeWhile isLet
  let d:=l.dropWhile isLet
  if a = [] ∨ d = [] ∨ d.head? = some 48 ∨ d.all isDig = false then (0,0,4)
  else if 1024 < colOf a ∨ 1024 < rowOf d then (0,0,3)
  else (colOf a,rowOf d,0)
structure Pc where
  m0 : Nat
  m1 : Nat
  v0 : Nat
  v1 : Nat
  ok : Bool
def Pc.start : Pc:=⟨0,0,0,0,true⟩
def Pc.letter (p : Pc) (b : UInt8) : Pc:=⟨p.m0 + 1,p.m1,stepC p.v0 b,p.v1,p.ok && p.m1 == 0⟩
def Pc.digit (p : Pc) (b : UInt8) : Pc:=⟨p.m0,p.m1 + 1,p.v0,stepR p.v1 b,p.ok && (b != 48 || decide (0 < p.m1))⟩
def Pc.other (p : Pc) : Pc:={ p with ok:=false }
def Pc.step (p : Pc) (b : UInt8) : Pc:=if isLet b then p.letter b else if isDig b then p.digit b else p.other
theorem let_not_dig {b : UInt8} (h : isDig b = true) : isLet b = false:=by
  simp only [isDig,decide_eq_true_eq] at h
  unfold isLet letV
  rw [if_neg (by omega),if_neg (by omega)]; rfl
theorem colOf_snoc (l : List UInt8) (b : UInt8) : colOf (l ++ [b]) = min (26 * colOf l + letV b) 1025:=by simp [colOf,stepC]
theorem rowOf_snoc (l : List UInt8) (b : UInt8) : rowOf (l ++ [b]) = min (10 * rowOf l + (b.toNat - 48)) 1025:=by simp [rowOf,stepR]
theorem colOf_pos (l : List UInt8) (h : l ≠ []) (hl : ∀ b ∈ l,isLet b = true) : 1 ≤ colOf l:=by
  rcases List.eq_nil_or_concat l with rfl | ⟨m,b,rfl⟩
  · exact absurd rfl h
  · rw [List.concat_eq_append,colOf_snoc]
    have : letV b ≠ 0:=by
      have:=hl b (by simp)
      simpa [isLet] using this
    omega
theorem rowOf_pos (l : List UInt8) : ∀ b,isDig b = true → b ≠ 48 → 1 ≤ rowOf (b :: l):=by
  intro b hb h0
  simp only [isDig,decide_eq_true_eq] at hb
  have h1 : 1 ≤ stepR 0 b:=by
    have : b.toNat ≠ 48:=fun e => h0 (by rw [← UInt8.toNat_inj]; exact e)
    unfold stepR; omega
  have key : ∀ (l : List UInt8) n,1 ≤ n → 1 ≤ l.foldl stepR n:=by
    intro l
    induction l with
    | nil => intro n h; exact h
    | cons c l ih => intro n h; exact ih _ (by unfold stepR; omega)
  exact key l _ h1
def lettersS (fuel : Nat) (n : Nat) : List UInt8 :=
  match fuel with
  | 0 => []
  | fuel + 1 => if n = 0 then [] else lettersS fuel ((n - 1) / 26) ++ [UInt8.ofNat (65 + (n - 1) % 26)]
def lettersN (n : Nat) : List UInt8:=lettersS n n
def upB (b : UInt8) : UInt8:=if 97 ≤ b.toNat ∧ b.toNat ≤ 122 then UInt8.ofNat (b.toNat - 32) else b
theorem lettersS_eq : ∀ (n fuel : Nat),n ≤ fuel → lettersS fuel n = lettersS n n:=by
  intro n
  induction n using Nat.strongRecOn with
  | _ n ih =>
    intro fuel h
    match fuel,n with
    | f,0 => cases f <;> rfl
    | 0,n + 1 => omega
    | f + 1,n + 1 =>
      simp only [lettersS,Nat.add_sub_cancel]
      rw [if_neg (by omega),if_neg (by omega),ih (n / 26) (by omega) f (by omega),ih (n / 26) (by omega) n (by omega)]
theorem lettersN_pos (n : Nat) (h : 0 < n) : lettersN n = lettersN ((n - 1) / 26) ++ [UInt8.ofNat (65 + (n - 1) % 26)]:=by
  unfold lettersN
  match n,h with
  | n + 1,_ =>
    rw [lettersS,if_neg (by omega),Nat.add_sub_cancel,lettersS_eq (n / 26) n (by omega)]
theorem lettersN_zero : lettersN 0 = []:=rfl
theorem letV_of (k : Nat) (h : k < 26) : letV (UInt8.ofNat (65 + k)) = k + 1:=by
  have : (UInt8.ofNat (65 + k)).toNat = 65 + k:=by rw [UInt8.toNat_ofNat']; omega
  unfold letV; rw [this,if_pos (by omega)]; omega
theorem col_letters (n : Nat) (h : n ≤ 1024) : colOf (lettersN n) = n:=by
  induction n using Nat.strongRecOn with
  | _ n ih =>
    rcases Nat.eq_zero_or_pos n with rfl | hp
    · rfl
    · rw [lettersN_pos n hp,colOf_snoc,ih _ (by omega) (by omega),letV_of _ (by omega)]
      omega
theorem letters_ne (n : Nat) (h : 0 < n) : lettersN n ≠ []:=by rw [lettersN_pos n h]; simp
theorem letters_let (n : Nat) : ∀ b ∈ lettersN n,isLet b = true:=by
  induction n using Nat.strongRecOn with
  | _ n ih =>
    rcases Nat.eq_zero_or_pos n with rfl | hp
    · intro b hb; simp [lettersN_zero] at hb
    · intro b hb
      rw [lettersN_pos n hp,List.mem_append] at hb
      rcases hb with hb | hb
      · exact ih _ (by omega) b hb
      · rw [List.mem_singleton] at hb; subst hb
        unfold isLet
        rw [letV_of ((n - 1) % 26) (by omega)]
        simp
theorem upB_let (b : UInt8) (h : isLet b = true) : upB b = UInt8.ofNat (65 + (letV b - 1)) ∧ 1 ≤ letV b ∧ letV b ≤ 26:=by
  have h' : letV b ≠ 0:=by simpa [isLet] using h
  unfold letV at *
  split at h'
  · rename_i h1
    rw [if_pos h1]
    refine ⟨?_,by omega,by omega⟩
    unfold upB; rw [if_neg (by omega),← UInt8.toNat_inj,UInt8.toNat_ofNat']; omega
  · rename_i h1
    split at h'
    · rename_i h2
      rw [if_neg h1,if_pos h2]
      refine ⟨?_,by omega,by omega⟩
      unfold upB; rw [if_pos h2]; congr 1; omega
    · exact absurd rfl h'
theorem letters_col (a : List UInt8) (ha : ∀ b ∈ a,isLet b = true) (h : colOf a ≤ 1024) : lettersN (colOf a) = a.map upB:=by
  induction hn : a.length generalizing a with
  | zero => rw [List.length_eq_zero_iff] at hn; subst hn; rfl
  | succ n ih =>
    rcases List.eq_nil_or_concat a with rfl | ⟨m,b,rfl⟩
    · simp at hn
    · rw [List.concat_eq_append] at *
      rw [colOf_snoc] at h ⊢
      obtain ⟨hu,h1,h2⟩:=upB_let b (ha b (by simp))
      have he : min (26 * colOf m + letV b) 1025 = 26 * colOf m + letV b:=by omega
      rw [he] at h ⊢
      rw [lettersN_pos _ (by omega),show (26 * colOf m + letV b - 1) / 26 = colOf m from by omega,show (26 * colOf m + letV b - 1) % 26 = letV b - 1 from by omega,ih m (fun b hb => ha b (by simp [hb])) (by omega) (by simpa using hn),List.map_append,← hu]
      rfl
/-! ### digits -/
open Go.Lib (decDigits)
theorem dec_small {n : Nat} (h : n < 10) : decDigits n = [UInt8.ofNat (48 + n)]:=by rw [decDigits,dif_pos h]
theorem dec_big {n : Nat} (h : ¬ n < 10) : decDigits n = decDigits (n / 10) ++ [UInt8.ofNat (48 + n % 10)]:=by rw [decDigits,dif_neg h]
theorem digV (k : Nat) (h : k < 10) : (UInt8.ofNat (48 + k)).toNat = 48 + k:=by rw [UInt8.toNat_ofNat']; omega
theorem row_dec (n : Nat) (h : n ≤ 1024) : rowOf (decDigits n) = n:=by
  induction n using Nat.strongRecOn with
  | _ n ih =>
    by_cases hp : n < 10
    · rw [dec_small hp]
      show stepR 0 (UInt8.ofNat (48 + n)) = n
      unfold stepR
      rw [digV n hp]; omega
    · rw [dec_big hp,rowOf_snoc,ih _ (by omega) (by omega),digV _ (by omega)]
      omega
theorem dec_ne (n : Nat) : decDigits n ≠ []:=by
  by_cases hp : n < 10
  · rw [dec_small hp]; simp
  · rw [dec_big hp]; simp
theorem dec_dig (n : Nat) : (decDigits n).all isDig = true:=by
  induction n using Nat.strongRecOn with
  | _ n ih =>
    by_cases hp : n < 10
    · rw [dec_small hp,List.all_cons,List.all_nil,Bool.and_true]
      unfold isDig; rw [digV n hp,decide_eq_true_eq]; omega
    · rw [dec_big hp,List.all_append,ih _ (by omega),List.all_cons,List.all_nil,Bool.and_true,Bool.true_and]
      unfold isDig; rw [digV _ (by omega),decide_eq_true_eq]; omega
theorem dec_head (n : Nat) (h : 0 < n) : (decDigits n).head? ≠ some 48:=by
  induction n using Nat.strongRecOn with
  | _ n ih =>
    by_cases hp : n < 10
    · rw [dec_small hp]
      intro e
      have e' : UInt8.ofNat (48 + n) = 48:=by simpa using e
      have:=digV n hp
      rw [e'] at this
      have : (48 : UInt8).toNat = 48:=rfl
      omega
    · rw [dec_big hp]
      have:=ih (n / 10) (by omega) (by omega)
      have h2:=dec_ne (n / 10)
      match hd : decDigits (n / 10),h2 with
      | b :: m,_ => rw [hd] at this; simpa using this
theorem dec_row (d : List UInt8) (hd : d.all isDig = true) (hne : d ≠ []) (h0 : d.head? ≠ some 48) (h : rowOf d ≤ 1024) : decDigits (rowOf d) = d:=by
  induction hn : d.length generalizing d with
  | zero => rw [List.length_eq_zero_iff] at hn; exact absurd hn hne
  | succ n ih =>
    rcases List.eq_nil_or_concat d with rfl | ⟨m,b,rfl⟩
    · simp at hn
    · rw [List.concat_eq_append] at *
      rw [List.all_append,Bool.and_eq_true] at hd
      have hb : isDig b = true:=by simpa using hd.2
      have hb':=hb
      simp only [isDig,decide_eq_true_eq] at hb'
      rw [rowOf_snoc] at h ⊢
      have he : min (10 * rowOf m + (b.toNat - 48)) 1025 = 10 * rowOf m + (b.toNat - 48):=by omega
      rw [he] at h ⊢
      have hbb : UInt8.ofNat (48 + (b.toNat - 48)) = b:=by rw [← UInt8.toNat_inj,UInt8.toNat_ofNat']; omega
      match m,hd.1,h0,ih m with
      | [],_,_,_ =>
        have : rowOf [] = 0:=rfl
        rw [this,Nat.mul_zero,Nat.zero_add,dec_small (by omega),hbb]; rfl
      | c :: m,hm,h0,ih =>
        have hc : isDig c = true:=by simp at hm; exact hm.1
        have h1:=rowOf_pos m c hc (fun e => h0 (by simp [e]))
        rw [dec_big (by omega),show (10 * rowOf (c :: m) + (b.toNat - 48)) / 10 = rowOf (c :: m) from by omega,show (10 * rowOf (c :: m) + (b.toNat - 48)) % 10 = b.toNat - 48 from by omega,hbb,
          ih hm (by simp) (by simpa using h0) (by omega) (by simpa using hn)]
def formatS (c r : Int) : List UInt8 × Int:=if validN c r then (lettersN c.toNat ++ decDigits r.toNat,0) else ([],3)
def lettersC (c : Int) : List UInt8 × Int:=if 1 ≤ c ∧ c ≤ 1024 then (lettersN c.toNat,0) else ([],3)
theorem take_let (a d : List UInt8) (ha : ∀ b ∈ a,isLet b = true) (hd : d.all isDig = true) : (a ++ d).takeWhile isLet = a ∧ (a ++ d).dropWhile isLet = d:=by
  induction a with
  | nil =>
    match d,hd with
    | [],_ => exact ⟨rfl,rfl⟩
    | b :: m,hd =>
      have hb : isDig b = true:=by simp at hd; exact hd.1
      have:=let_not_dig hb
      simp [this]
  | cons b a ih =>
    have:=ih (fun x hx => ha x (by simp [hx]))
    have hb:=ha b (by simp)
    simp [hb,this]
theorem parse_format (c r : Int) (h : validN c r = true) : parseS (formatS c r).1 = (c,r,0):=by
  have hv : 1 ≤ c ∧ c ≤ 1024 ∧ 1 ≤ r ∧ r ≤ 1024:=by simpa [validN] using h
  unfold formatS
  rw [if_pos h]
  obtain ⟨h1,h2⟩:=take_let (lettersN c.toNat) (decDigits r.toNat) (letters_let _) (dec_dig _)
  simp only [parseS,h1,h2]
  rw [if_neg,col_letters _ (by omega),row_dec _ (by omega),if_neg (by omega),Int.toNat_of_nonneg (by omega),Int.toNat_of_nonneg (by omega)]
  intro hh
  rcases hh with hh | hh | hh | hh
  · exact letters_ne _ (by omega) hh
  · exact dec_ne _ hh
  · exact dec_head _ (by omega) hh
  · rw [dec_dig] at hh; cases hh
theorem parse_ok (l : List UInt8) (h : (parseS l).2.2 = 0) : validN (parseS l).1 (parseS l).2.1 = true ∧ (formatS (parseS l).1 (parseS l).2.1).1 = l.map upB:=by
  unfold parseS at h ⊢
  have ha : ∀ b ∈ l.takeWhile isLet,isLet b = true:=fun b hb => (List.all_eq_true.1 (List.all_takeWhile (l:=l))) b hb
  have hl : l = l.takeWhile isLet ++ l.dropWhile isLet:=(List.takeWhile_append_dropWhile ..).symm
  generalize l.takeWhile isLet = a at *
  generalize l.dropWhile isLet = d at *
  subst hl
  simp only [] at h ⊢
  split at h
  · simp at h
  · rename_i h1
    rw [if_neg h1]
    split at h
    · simp at h
    · rename_i h2
      rw [if_neg h2]
      simp only [not_or] at h1 h2
      have hd : d.all isDig = true:=by simpa using h1.2.2.2
      have hc:=colOf_pos a h1.1 ha
      have hr : 1 ≤ rowOf d:=by
        match d,h1,hd with
        | [],h1,_ => exact absurd rfl h1.2.1
        | b :: m,h1,hd =>
          have hb : isDig b = true:=by simp at hd; exact hd.1
          exact rowOf_pos m b hb (fun e => h1.2.2.1 (by simp [e]))
      have hv : validN (colOf a) (rowOf d) = true:=by simp only [validN,decide_eq_true_eq]; omega
      refine ⟨hv,?_⟩
      unfold formatS
      rw [if_pos hv]
      simp only [Int.toNat_natCast]
      rw [letters_col a ha (by omega),dec_row d hd h1.2.1 h1.2.2.1 (by omega),List.map_append]
      congr 1
      have : ∀ b ∈ d,upB b = b:=by
        intro b hb
        have : isDig b = true:=(List.all_eq_true.1 hd) b hb
        simp only [isDig,decide_eq_true_eq] at this
        unfold upB; rw [if_neg (by omega)]
      exact (List.map_id' d ▸ (List.map_congr_left this)).symm
end Go.Proofs.YtmalncmdfmoccaaGreatDoor
