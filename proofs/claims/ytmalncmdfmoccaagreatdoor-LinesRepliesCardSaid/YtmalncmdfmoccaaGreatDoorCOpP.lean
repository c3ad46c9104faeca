/- Plain: what is written for an operation, and that it is read back. No program stands here. -/
import Derived.Test.YtmalncmdfmoccaaGreatDoorCRefC
import Derived.Test.YtmalncmdfmoccaaGreatDoorCGrpQ
import Derived.Test.YtmalncmdfmoccaaGreatDoorCLexC
import Derived.Lib.AtoiAllCases
namespace Go.Proofs.YtmalncmdfmoccaaGreatDoor
open Go.RowKit
/-! ### numbers -/
theorem parse_dec (u : Nat) (h : u < 18446744073709551616) (r : List UInt8) : Lib.parseUint10 0 (Lib.decDigits u ++ r) = Lib.parseUint10 u r:=by
  induction u using Nat.strongRecOn generalizing r with
  | _ u ih =>
    by_cases hu : u < 10
    · rw [Lib.decDigits,dif_pos hu]
      have e : (UInt8.ofNat (48 + u)).toNat = 48 + u:=by rw [UInt8.toNat_ofNat']; omega
      show Lib.parseUint10 0 (UInt8.ofNat (48 + u) :: r) = _
      rw [Lib.parseUint10,e,if_pos (by omega),if_neg (by omega),if_neg (by omega)]
      congr 1; omega
    · rw [Lib.decDigits,dif_neg hu,List.append_assoc,ih (u / 10) (by omega) (by omega)]
      have e : (UInt8.ofNat (48 + u % 10)).toNat = 48 + u % 10:=by rw [UInt8.toNat_ofNat']; omega
      show Lib.parseUint10 (u / 10) (UInt8.ofNat (48 + u % 10) :: r) = _
      rw [Lib.parseUint10,e,if_pos (by omega),if_neg (by omega),if_neg (by omega)]
      congr 1; omega
theorem dec_dig10 (u : Nat) : ∀ b ∈ Lib.decDigits u,48 ≤ b.toNat ∧ b.toNat ≤ 57:=by
  induction u using Nat.strongRecOn with
  | _ u ih =>
    by_cases hu : u < 10
    · rw [Lib.decDigits,dif_pos hu]
      intro b hb
      rw [List.mem_singleton] at hb
      subst hb
      rw [UInt8.toNat_ofNat']; omega
    · rw [Lib.decDigits,dif_neg hu]
      intro b hb
      rcases List.mem_append.1 hb with hb | hb
      · exact ih (u / 10) (by omega) b hb
      · rw [List.mem_singleton] at hb
        subst hb
        rw [UInt8.toNat_ofNat']; omega
theorem dec_some (u : Nat) : Lib.decDigits u ≠ []:=by
  rw [Lib.decDigits]; split <;> simp
theorem mag_dec (u : Nat) (h : u < 18446744073709551616) : Lib.parseMag (Lib.decDigits u) = .ok u:=by
  unfold Lib.parseMag
  rw [if_neg (dec_some u)]
  have:=parse_dec u h []
  rw [List.append_nil] at this
  rw [this]; rfl
theorem atoi_dec (u : Nat) (h : u ≤ 9223372036854775807) : Lib.atoiAll (Lib.decDigits u) = .ok (u : Int):=by
  have hm:=mag_dec u (by omega)
  have hd:=dec_dig10 u
  generalize hl : Lib.decDigits u = l at hm hd
  cases l with
  | nil => exact absurd hl (dec_some u)
  | cons c r =>
    have hc:=hd c (by simp)
    unfold Lib.atoiAll
    simp only [show ¬ (c.toNat = 43 ∨ c.toNat = 45) from by omega,if_false,hm]
    rw [if_neg (by omega),if_neg (by omega),if_neg (by omega)]
theorem atoi_itoa (n : Int) (h : i64B n) : Lib.atoiAll (Lib.itoa n) = .ok n:=by
  obtain ⟨h1,h2⟩:=h
  unfold Lib.itoa
  by_cases hn : n < 0
  · rw [if_pos hn]
    have hm:=mag_dec n.natAbs (by omega)
    unfold Lib.atoiAll
    simp only [show (45 : UInt8).toNat = 45 from rfl,or_true,if_true,hm]
    rw [if_neg (by simp),if_neg (by omega)]
    congr 1; omega
  · rw [if_neg hn,atoi_dec _ (by omega)]
    congr 1; omega
theorem itoa_byte (n : Int) : ∀ b ∈ Lib.itoa n,b = 45 ∨ (48 ≤ b.toNat ∧ b.toNat ≤ 57):=by
  unfold Lib.itoa
  split
  · intro b hb
    rcases List.mem_cons.1 hb with rfl | hb
    · exact .inl rfl
    · exact .inr (dec_dig10 _ b hb)
  · intro b hb; exact .inr (dec_dig10 _ b hb)
theorem itoa_not (n : Int) (c : UInt8) (hc : c ≠ 45) (h : ¬ (48 ≤ c.toNat ∧ c.toNat ≤ 57)) : ∀ b ∈ Lib.itoa n,b ≠ c:=by
  rintro b hb rfl
  rcases itoa_byte n b hb with rfl | h1
  · exact hc rfl
  · exact h h1
def commaL (r : R4) : List UInt8:=Lib.join [Lib.itoa r.c1,Lib.itoa r.r1,Lib.itoa r.c2,Lib.itoa r.r2] [44]
def rangeL (r : R4) : List UInt8:=if checkB r = true then fmtL r else commaL r
def numP (l : List UInt8) : Option Int:=match Lib.atoiAll l with
  | .ok v => some v
  | _ => none
def commaP (p : List (List UInt8)) : Option R4:=match p with
  | [a,b,c,d] => (numP a).bind fun a => (numP b).bind fun b => (numP c).bind fun c => (numP d).bind fun d => some ⟨a,b,c,d⟩
  | _ => none
def rangeP (l : List UInt8) : Option R4:=if (parseR l).2 = 0 then some (parseR l).1 else commaP (Lib.split l [44])
theorem numP_itoa (n : Int) (h : i64B n) : numP (Lib.itoa n) = some n:=by unfold numP; rw [atoi_itoa n h]
theorem split_comma (r : R4) : Lib.split (commaL r) [44] = [Lib.itoa r.c1,Lib.itoa r.r1,Lib.itoa r.c2,Lib.itoa r.r2]:=by
  have h : ∀ n : Int,∀ b ∈ Lib.itoa n,b ≠ 44:=fun n => itoa_not n 44 (by decide) (by decide)
  refine split_join _ 44 (by simp) fun w hw => ?_
  simp only [List.mem_cons,List.not_mem_nil,or_false] at hw
  rcases hw with rfl | rfl | rfl | rfl <;> exact h _
theorem comma_byte (r : R4) : ∀ b ∈ commaL r,b = 44 ∨ b = 45 ∨ (48 ≤ b.toNat ∧ b.toNat ≤ 57):=by
  intro b hb
  have e : commaL r = Lib.itoa r.c1 ++ 44 :: (Lib.itoa r.r1 ++ 44 :: (Lib.itoa r.c2 ++ 44 :: Lib.itoa r.r2)):=by
    simp [commaL,Lib.join,List.intercalate]
  rw [e] at hb
  simp only [List.mem_append,List.mem_cons] at hb
  rcases hb with hb | rfl | hb | rfl | hb | rfl | hb
  · exact .inr (itoa_byte _ b hb)
  · exact .inl rfl
  · exact .inr (itoa_byte _ b hb)
  · exact .inl rfl
  · exact .inr (itoa_byte _ b hb)
  · exact .inl rfl
  · exact .inr (itoa_byte _ b hb)
theorem let_range (b : UInt8) (h : isLet b = true) : 65 ≤ b.toNat ∧ b.toNat ≤ 122:=by
  unfold isLet letV at h
  split at h
  · omega
  · split at h
    · omega
    · exact absurd h (by decide)
theorem dig_range (b : UInt8) (h : isDig b = true) : 48 ≤ b.toNat ∧ b.toNat ≤ 57:=of_decide_eq_true h
theorem parseS_first (l : List UInt8) (h : ∀ b ∈ l,isLet b = false) : parseS l = (0,0,4):=by
  have e : l.takeWhile isLet = []:=by
    cases l with
    | nil => rfl
    | cons b r => rw [List.takeWhile_cons,h b (by simp)]; rfl
  unfold parseS
  simp only [e,true_or,if_true]
theorem comma_no (r : R4) : parseR (commaL r) = (R4.zero,4):=by
  have h58 : ∀ b ∈ commaL r,b ≠ 58:=by
    rintro b hb rfl
    rcases comma_byte r _ hb with h | h | h
    · exact absurd h (by decide)
    · exact absurd h (by decide)
    · exact absurd h (by decide)
  have hl : ∀ b ∈ commaL r,isLet b = false:=by
    intro b hb
    rcases comma_byte r _ hb with rfl | rfl | h
    · decide
    · decide
    · cases hq : isLet b
      · rfl
      · have:=let_range b hq
        omega
  unfold parseR fromS toS
  rw [cut_fmt1 _ h58]
  simp only [Bool.false_eq_true,if_false]
  rw [parseS_first _ hl]
  simp [parseAB]
theorem rangeP_range (r : R4) (h1 : i64B r.c1) (h2 : i64B r.r1) (h3 : i64B r.c2) (h4 : i64B r.r2) : rangeP (rangeL r) = some r:=by
  unfold rangeP rangeL
  by_cases h : checkB r = true
  · rw [if_pos h,parse_fmt r h,if_pos rfl]
  · rw [if_neg h,comma_no,if_neg (by decide),split_comma]
    simp only [commaP,numP_itoa _ h1,numP_itoa _ h2,numP_itoa _ h3,numP_itoa _ h4,Option.bind_some]
theorem fmtL_byte (r : R4) : ∀ b ∈ fmtL r,isLet b = true ∨ isDig b = true ∨ b = 58:=by
  have hf : ∀ c t : Int,∀ b ∈ (formatS c t).1,isLet b = true ∨ isDig b = true:=by
    intro c t b hb
    cases hv : validN c t
    · rw [formatS_bad c t hv] at hb; simp at hb
    · rw [formatS_good c t hv] at hb
      rcases List.mem_append.1 hb with h | h
      · exact .inl (letters_let _ b h)
      · exact .inr (List.all_eq_true.1 (dec_dig _) b h)
  intro b hb
  unfold fmtL at hb
  rcases List.mem_append.1 hb with h | h
  · rcases hf _ _ b h with h | h
    · exact .inl h
    · exact .inr (.inl h)
  · split at h
    · cases h
    · rcases List.mem_cons.1 h with rfl | h
      · exact .inr (.inr rfl)
      · rcases hf _ _ b h with h | h
        · exact .inl h
        · exact .inr (.inl h)
def inkB (b : UInt8) : Bool:=decide (33 ≤ b.toNat) && decide (b.toNat ≤ 126)
theorem ink_ne (l : List UInt8) (h : l.all inkB = true) : ∀ b ∈ l,b ≠ 32:=by
  rintro b hb rfl
  exact absurd (List.all_eq_true.1 h _ hb) (by decide)
theorem ink_dec (b : UInt8) (h : 48 ≤ b.toNat ∧ b.toNat ≤ 57) : inkB b = true:=by
  unfold inkB
  rw [Bool.and_eq_true,decide_eq_true_eq,decide_eq_true_eq]; omega
theorem ink_itoa (n : Int) : (Lib.itoa n).all inkB = true:=by
  rw [List.all_eq_true]
  intro b hb
  rcases itoa_byte n b hb with rfl | h
  · decide
  · exact ink_dec b h
theorem ink_range (r : R4) : (rangeL r).all inkB = true:=by
  rw [List.all_eq_true]
  intro b hb
  unfold rangeL at hb
  split at hb
  · rcases fmtL_byte r b hb with h | h | rfl
    · have:=let_range b h
      unfold inkB
      rw [Bool.and_eq_true,decide_eq_true_eq,decide_eq_true_eq]; omega
    · exact ink_dec b (dig_range b h)
    · decide
  · rcases comma_byte r b hb with rfl | rfl | h
    · decide
    · decide
    · exact ink_dec b h
/-! ### sets -/
theorem ink_dig2 (u : Nat) (h : u < 64) : (dig2 u).all inkB = true:=by
  have key : ∀ u : Fin 64,(dig2 u.1).all inkB = true:=by decide +kernel
  exact key ⟨u,h⟩
theorem ink_wordsF (s k : Nat) (hs : s < 18446744073709551616) (hk : k ≤ 64) : ∀ w ∈ (wordsF s k).2,w.all inkB = true:=by
  induction k with
  | zero => intro w hw; cases hw
  | succ k ih =>
    intro w hw
    rw [wordsF] at hw
    split at hw
    · rcases List.mem_append.1 hw with hw | hw
      · exact ih (by omega) w hw
      · rw [List.mem_singleton] at hw
        subst hw
        have hl64:=lastS_lt s k hs (by omega)
        unfold wordF
        split
        · exact ink_dig2 k (by omega)
        · rw [List.all_append,List.all_cons,ink_dig2 k (by omega),ink_dig2 _ hl64]; rfl
    · exact ih (by omega) w hw
theorem ink_join (ws : List (List UInt8)) (c : UInt8) (hc : inkB c = true) (h : ∀ w ∈ ws,w.all inkB = true) : (Lib.join ws [c]).all inkB = true:=by
  induction ws with
  | nil => rfl
  | cons x r ih =>
    cases r with
    | nil => rw [Lib.join_one]; exact h x (by simp)
    | cons y r =>
      have e : Lib.join (x :: y :: r) [c] = x ++ c :: Lib.join (y :: r) [c]:=by rw [Lib.join_cons,Lib.join_cons]; simp [Lib.joinTail]
      rw [e,List.all_append,List.all_cons,h x (by simp),hc,ih fun w hw => h w (by simp [List.mem_cons.1 hw])]; rfl
theorem ink_set (s : Nat) (hs : s < 18446744073709551616) : (gfmtL s).all inkB = true:=by
  unfold gfmtL
  split
  · decide
  · split
    · decide
    · exact ink_join _ 44 (by decide) (ink_wordsF s 64 hs (Nat.le_refl _))
def setP (l : List UInt8) : Option Nat:=if (gparseG l).2 = 0 then some (gparseG l).1 else none
theorem setP_set (s : Nat) (hs : s < 18446744073709551616) : setP (gfmtL s) = some s:=by
  unfold setP; rw [parseG_back s hs]; rfl
/-! ### literals -/
def unqI : List UInt8 → Option (List UInt8)
  | [] => some []
  | [b] => if b = 34 then none else some [b]
  | b :: c :: r => if b = 34 then (if c = 34 then (unqI r).map (34 :: ·) else none) else (unqI (c :: r)).map (b :: ·)
theorem unqI_ne (b : UInt8) (r : List UInt8) (h : b ≠ 34) : unqI (b :: r) = (unqI r).map (b :: ·):=by
  cases r with
  | nil => simp [unqI,h]
  | cons c r => rw [unqI,if_neg h]
theorem unqI_two (r : List UInt8) : unqI (34 :: 34 :: r) = (unqI r).map (34 :: ·):=by rw [unqI,if_pos rfl,if_pos rfl]
theorem unqI_quote (t : List UInt8) : unqI (t.flatMap quoteB) = some t:=by
  induction t with
  | nil => rfl
  | cons b t ih =>
    rw [List.flatMap_cons]
    unfold quoteB
    split
    · next h => subst h; show unqI (34 :: 34 :: t.flatMap quoteB) = _; rw [unqI_two,ih]; rfl
    · next h => show unqI (b :: t.flatMap quoteB) = _; rw [unqI_ne b _ h,ih]; rfl
def innerL (l : List UInt8) : List UInt8:=(l.drop 1).take (l.length - 2)
def litB (l : List UInt8) : Bool:=decide (2 ≤ l.length) && decide (l.head? = some 34) && decide (l.getLast? = some 34) && l.all plainB
def unqV (l : List UInt8) : List UInt8 × Int :=
  if litB l = true then (match unqI (innerL l) with
    | some t => if t.length ≤ 256 then (t,0) else ([],5)
    | none => ([],4))
  else ([],4)
theorem plain_flat (t : List UInt8) (h : t.all plainB = true) : (t.flatMap quoteB).all plainB = true:=by
  induction t with
  | nil => rfl
  | cons b t ih =>
    rw [List.all_cons,Bool.and_eq_true] at h
    rw [List.flatMap_cons,List.all_append,ih h.2,Bool.and_true]
    unfold quoteB
    split
    · decide
    · rw [List.all_cons,h.1]; rfl
theorem unq_back (t : List UInt8) (h : textB t = true) : unqV (quoteS t) = (t,0):=by
  unfold textB at h
  rw [Bool.and_eq_true,decide_eq_true_eq] at h
  have hl : litB (quoteS t) = true:=by
    unfold litB quoteS
    rw [List.all_cons,List.all_append,plain_flat t h.2]
    simp [List.getLast?_cons]
    decide
  have hi : innerL (quoteS t) = t.flatMap quoteB:=by
    unfold innerL quoteS
    simp
  unfold unqV
  rw [if_pos hl,hi,unqI_quote]
  simp only [if_pos h.1]
/-! ### lines -/
def wordK (k : Nat) : List UInt8:=match k with
  | 1 => [108,111,103,105,110]
  | 2 => [108,111,103,111,117,116]
  | 3 => [115,101,116]
  | 4 => [99,108,101,97,114]
  | 5 => [114,101,97,100]
  | 6 => [102,111,114,109,117,108,97]
  | 7 => [114,117,108,101]
  | 8 => [103,114,97,110,116]
  | 9 => [114,101,118,111,107,101]
  | 10 => [97,117,100,105,116]
  | _ => []
def tailW (x : OpV) : List (List UInt8) :=
  if x.kind = 3 then [quoteS x.input] else if x.kind = 7 then [gfmtL x.rd,gfmtL x.wr,gfmtL x.ow] else if x.kind = 8 then [Lib.itoa x.fns,gfmtL x.tg] else if x.kind = 9 then [Lib.itoa x.idx] else []
def lineW (x : OpV) : List (List UInt8):=wordK x.kind :: Lib.itoa x.user :: ((if usesR x.kind = true then [rangeL x.rect] else []) ++ tailW x)
def lineL (x : OpV) : List UInt8:=Lib.join (lineW x) [32]
def kindP (w : List UInt8) : Nat:=(List.range 11).foldl (fun o k => if k ≠ 0 ∧ wordK k = w then k else o) 0
theorem kindP_word (k : Nat) (h1 : 1 ≤ k) (h2 : k ≤ 10) : kindP (wordK k) = k:=by
  have key : ∀ k : Fin 10,kindP (wordK (k.1 + 1)) = k.1 + 1:=by decide +kernel
  have:=key ⟨k - 1,by omega⟩
  simp only [show k - 1 + 1 = k by omega] at this
  exact this
theorem ink_word (k : Nat) (h1 : 1 ≤ k) (h2 : k ≤ 10) : (wordK k).all inkB = true:=by
  have key : ∀ k : Fin 10,(wordK (k.1 + 1)).all inkB = true:=by decide +kernel
  have:=key ⟨k - 1,by omega⟩
  simp only [show k - 1 + 1 = k by omega] at this
  exact this
def fstW (l : List UInt8) : List UInt8:=(Lib.cut l [32]).1
def sndW (l : List UInt8) : List UInt8:=(Lib.cut l [32]).2.1
theorem cut_blank (x r : List UInt8) (h : x.all inkB = true) : Lib.cut (x ++ 32 :: r) [32] = (x,r,true):=by
  unfold Lib.cut
  rw [index_hit x r 32 (ink_ne x h),if_pos (by omega)]
  simp
theorem cut_end (x : List UInt8) (h : x.all inkB = true) : Lib.cut x [32] = (x,[],false):=by
  unfold Lib.cut
  rw [index_miss x 32 (ink_ne x h),if_neg (by omega)]
theorem join_two (x y : List UInt8) (r : List (List UInt8)) : Lib.join (x :: y :: r) [32] = x ++ 32 :: Lib.join (y :: r) [32]:=by rw [Lib.join_cons,Lib.join_cons]; simp [Lib.joinTail]
theorem fst_join (x : List UInt8) (r : List (List UInt8)) (h : x.all inkB = true) : fstW (Lib.join (x :: r) [32]) = x:=by
  unfold fstW
  cases r with
  | nil => rw [Lib.join_one,cut_end x h]
  | cons y r => rw [join_two,cut_blank x _ h]
theorem snd_join (x : List UInt8) (r : List (List UInt8)) (h : x.all inkB = true) : sndW (Lib.join (x :: r) [32]) = Lib.join r [32]:=by
  unfold sndW
  cases r with
  | nil => rw [Lib.join_one,cut_end x h]; rfl
  | cons y r => rw [join_two,cut_blank x _ h]
def tailP (x : OpV) (l : List UInt8) : Option OpV :=
  if x.kind = 3 then (if (unqV l).2 = 0 then some { x with input:=(unqV l).1 } else none)
  else if x.kind = 7 then (setP (fstW l)).bind fun a => (setP (fstW (sndW l))).bind fun b => (setP (fstW (sndW (sndW l)))).bind fun c => some { x with rd:=a,wr:=b,ow:=c }
  else if x.kind = 8 then (numP (fstW l)).bind fun n => if 0 ≤ n ∧ n ≤ 255 then (setP (fstW (sndW l))).bind fun t => some { x with fns:=n.toNat,tg:=t } else none
  else if x.kind = 9 then (numP (fstW l)).bind fun n => some { x with idx:=n }
  else some x
def readV (l : List UInt8) : Option OpV :=
  if kindP (fstW l) = 0 then none else
  (numP (fstW (sndW l))).bind fun u =>
    if usesR (kindP (fstW l)) = true then (rangeP (fstW (sndW (sndW l)))).bind fun r => tailP ⟨kindP (fstW l),u,r,[],0,0,0,0,0,0⟩ (sndW (sndW (sndW l)))
    else tailP ⟨kindP (fstW l),u,R4.zero,[],0,0,0,0,0,0⟩ (sndW (sndW l))
theorem tail_back (x : OpV) (hg : goodO x) (ho : x.Ok) : tailP ⟨x.kind,x.user,x.rect,[],0,0,0,0,0,0⟩ (Lib.join (tailW x) [32]) = some x:=by
  obtain ⟨hk1,hk2,hp,-,ht,hf⟩:=hg
  obtain ⟨k,u,r,inp,a,b,c,f,t,n⟩:=x
  have hp2:=hp
  unfold plainV at hp
  rw [if_pos ⟨hk1,hk2⟩] at hp
  simp only [OpV.mk.injEq,true_and] at hp hk1 hk2 ht hf
  obtain ⟨-,p3,p7a,p7b,p7c,p8a,p8b,p9⟩:=hp
  unfold tailP tailW
  simp only []
  by_cases h3 : k = 3
  · subst h3
    simp only [if_true,Lib.join_one,unq_back inp ht]
    simp at p7a p7b p7c p8a p8b p9
    subst p7a; subst p7b; subst p7c; subst p8a; subst p8b; subst p9
    rfl
  · rw [if_neg h3] at p3
    simp only [if_neg h3]
    subst p3
    by_cases h7 : k = 7
    · subst h7
      simp at p8a p8b p9
      simp only [if_true]
      rw [fst_join _ _ (ink_set a ho.rd),snd_join _ _ (ink_set a ho.rd),fst_join _ _ (ink_set b ho.wr),snd_join _ _ (ink_set b ho.wr),fst_join _ _ (ink_set c ho.ow),setP_set a ho.rd,setP_set b ho.wr,setP_set c ho.ow]
      subst p8a; subst p8b; subst p9
      rfl
    · rw [if_neg h7] at p7a p7b p7c
      simp only [if_neg h7]
      subst p7a; subst p7b; subst p7c
      by_cases h8 : k = 8
      · subst h8
        simp at p9
        simp only [if_true]
        have hfb:=hf rfl
        rw [fst_join _ _ (ink_itoa _),snd_join _ _ (ink_itoa _),fst_join _ _ (ink_set t ho.tg),numP_itoa _ ⟨by omega,by omega⟩,setP_set t ho.tg]
        simp only [Option.bind_some]
        rw [if_pos ⟨by omega,by omega⟩]
        subst p9
        rfl
      · rw [if_neg h8] at p8a p8b
        simp only [if_neg h8]
        subst p8a; subst p8b
        by_cases h9 : k = 9
        · subst h9
          simp only [if_true]
          rw [fst_join _ _ (ink_itoa _),numP_itoa _ ho.idx]
          simp
        · rw [if_neg h9] at p9
          simp only [if_neg h9]
          subst p9
          rfl
theorem read_back (x : OpV) (hg : goodO x) (ho : x.Ok) : readV (lineL x) = some x:=by
  obtain ⟨hk1,hk2,hp,-,-,-⟩:=id hg
  unfold readV lineL lineW
  have hw:=ink_word x.kind hk1 hk2
  have hi:=ink_itoa x.user
  rw [fst_join _ _ hw,snd_join _ _ hw,kindP_word x.kind hk1 hk2,if_neg (by omega),fst_join _ _ hi,snd_join _ _ hi,numP_itoa _ ho.user]
  simp only [Option.bind_some]
  by_cases hu : usesR x.kind = true
  · simp only [if_pos hu,List.singleton_append]
    rw [fst_join _ _ (ink_range _),snd_join _ _ (ink_range _),rangeP_range _ ho.c1 ho.r1 ho.c2 ho.r2]
    simp only [Option.bind_some]
    exact tail_back x hg ho
  · simp only [if_neg hu,List.nil_append]
    have hr : x.rect = R4.zero:=by
      have:=congrArg OpV.rect hp
      unfold plainV at this
      rw [if_pos ⟨hk1,hk2⟩] at this
      simp only [if_neg hu] at this
      exact this.symm
    rw [← hr]
    exact tail_back x hg ho
theorem line_inj (x y : OpV) (hx : goodO x) (hy : goodO y) (ox : x.Ok) (oy : y.Ok) (h : lineL x = lineL y) : x = y:=by
  have h1:=read_back x hx ox
  rw [h,read_back y hy oy] at h1
  exact (Option.some.inj h1).symm
def ParsedAs (s : List UInt8) (x : OpV) (e : Int) : Prop:=(e = 0 ∧ x.Ok ∧ goodO x ∧ lineL x = s) ∨ (e = 4 ∧ x = OpV.zero ∧ ∀ y : OpV,y.Ok → goodO y → lineL y ≠ s)
theorem ParsedAs.same {s : List UInt8} {x y : OpV} {e f : Int} (h : ParsedAs s x e) (k : ParsedAs s y f) : x = y ∧ e = f:=by
  rcases h with ⟨rfl,h1,h2,h3⟩ | ⟨rfl,rfl,h1⟩ <;> rcases k with ⟨rfl,k1,k2,k3⟩ | ⟨rfl,rfl,k1⟩
  · exact ⟨line_inj x y h2 k2 h1 k1 (h3.trans k3.symm),rfl⟩
  · exact absurd h3 (k1 x h1 h2)
  · exact absurd k3 (h1 y k1 k2)
  · exact ⟨rfl,rfl⟩
end Go.Proofs.YtmalncmdfmoccaaGreatDoor
