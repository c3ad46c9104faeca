/- Plain: the texts of ranges and of numbers are read as the tokens. No program stands here. Plain: the texts of numbers are read as the tokens. No program stands here. Plain: the text of canonical tokens is read as these tokens. No program stands here. -/
import Derived.Test.YtnbemkiplnanlaaGreatDoorMShP
namespace Go.Proofs.YtnbemkiplnanlaaGreatDoor
open Go.RowKit
open Go.Lib (decDigits)
theorem parseS_none (b : UInt8) (w : List UInt8) (h : isLet b = false) : parseS (b :: w) = (0,0,4):=by
 have e : (b :: w).takeWhile isLet = []:=by rw [List.takeWhile_cons,h]; rfl
 unfold parseS
 simp only [e,true_or,if_true]
theorem addr_text (c r : Int) (h : validN c r = true) : ∃ b w,(formatS c r).1 = b :: w ∧ isLet b = true ∧ (∀ x ∈ b :: w,isWrd x = true) ∧ parseS ((b :: w).map upB) = (c,r,0):=by
 have hp:=parse_format c r h
 have hu:=(parse_ok (formatS c r).1 (by rw [hp])).2
 rw [hp] at hu
 have hf : formatS c r = (lettersN c.toNat ++ decDigits r.toNat,0):=by unfold formatS; rw [if_pos h]
 have hw : ∀ x ∈ (formatS c r).1,isWrd x = true:=by
  rw [hf]
  intro x hx
  unfold isWrd
  rcases List.mem_append.1 hx with q | q
  ·rw [letters_let _ x q]; rfl
  ·rw [List.all_eq_true.1 (dec_dig _) x q,Bool.or_true]
 cases hL : (formatS c r).1 with
 | nil => rw [hL] at hp; exact absurd (show (parseS []).2.2 = 0 from congrArg (·.2.2) hp) (by decide)
 | cons b w =>
  rw [hL] at hp hu hw
  refine ⟨b,w,rfl,?_,hw,by rw [← hu]; exact hp⟩
  cases hb : isLet b with
  | true => rfl
  | false => rw [parseS_none b w hb] at hp; exact absurd (show (4 : Int) = 0 from congrArg (·.2.2) hp) (by decide)
theorem no_bool {u : List UInt8} {c r : Int} (h : parseS u = (c,r,0)) : u ≠ trueB ∧ u ≠ falseB:=by
 constructor
 ·rintro rfl; exact absurd (show (parseS trueB).2.2 = 0 from congrArg (·.2.2) h) (by decide)
 ·rintro rfl; exact absurd (show (parseS falseB).2.2 = 0 from congrArg (·.2.2) h) (by decide)
theorem Sep.colon {r : List UInt8} (h : Sep r) : secondS r = none:=by
 cases r with
 | nil => rfl
 | cons b r => rw [secondS,if_neg (sep_no b (h b r rfl)).2.2.2.2.1]
theorem tok_ref (k : Nat) (c r : Int) (y : List UInt8) (h : validN c r = true) (hs : Sep y) : tokS k ((formatS c r).1 ++ y) = some (⟨5,0,[],⟨c,r,c,r⟩,k⟩,(formatS c r).1.length):=by
 obtain ⟨b,w,e,hb,hw,hp⟩:=addr_text c r h
 rw [e]
 obtain ⟨g1,g2,g3⟩:=tok_word k hb hw hs.stop
 rw [g1]
 unfold wordS
 have hn:=no_bool hp
 simp only [g2,g3,if_neg hs.paren,if_neg hn.1,if_neg hn.2,hp,ne_eq,not_true_eq_false,if_false,hs.colon]
 simp [rectS]
theorem tok_range (k : Nat) (c1 r1 c2 r2 : Int) (y : List UInt8) (h1 : validN c1 r1 = true) (h2 : validN c2 r2 = true) (hc : c1 ≤ c2) (hr : r1 ≤ r2) (hne : ¬ (c1 = c2 ∧ r1 = r2)) (hs : Sep y) :
  tokS k ((formatS c1 r1).1 ++ 58 :: ((formatS c2 r2).1 ++ y)) = some (⟨6,0,[],⟨c1,r1,c2,r2⟩,k⟩,(formatS c1 r1).1.length + 1 + (formatS c2 r2).1.length):=by
 obtain ⟨b,w,e,hb,hw,hp⟩:=addr_text c1 r1 h1
 obtain ⟨b2,w2,e2,hb2,hw2,hp2⟩:=addr_text c2 r2 h2
 rw [e,e2]
 obtain ⟨g1,g2,g3⟩:=tok_word k hb hw (r:=58 :: ((b2 :: w2) ++ y)) (show (!isWrd 58) = true by decide)
 obtain ⟨t1,t2⟩:=take_stop isWrd (b2 :: w2) y hw2 hs.stop
 rw [g1]
 unfold wordS
 have hn:=no_bool hp
 have h58 : (58 :: ((b2 :: w2) ++ y)).head? ≠ some 40:=by simp
 have hsec : secondS (58 :: ((b2 :: w2) ++ y)) = some (c2,r2,(b2 :: w2).length):=by
  rw [secondS,if_pos rfl]
  unfold addrS
  simp only [t1,t2,hp2]
  rw [if_pos]
  exact ⟨by simpa using hb2,trivial,hs.paren⟩
 simp only [g2,g3,if_neg h58,if_neg hn.1,if_neg hn.2,hp,ne_eq,not_true_eq_false,if_false,hsec,if_neg hne]
 simp [rectS,Int.min_eq_left hc,Int.min_eq_left hr,Int.max_eq_right hc,Int.max_eq_right hr]
end Go.Proofs.YtnbemkiplnanlaaGreatDoor
namespace Go.Proofs.YtnbemkiplnanlaaGreatDoor
open Go.RowKit
open Go.Lib (decDigits)
theorem vD_snoc (l : List UInt8) (b : UInt8) : valD (l ++ [b]) = 10 * valD l + (b.toNat - 48):=by unfold valD; rw [List.foldl_append]; rfl
theorem vD_dig (l : List UInt8) (d : Nat) (h : d < 10) : valD (l ++ [UInt8.ofNat (48 + d)]) = 10 * valD l + d:=by
 rw [vD_snoc,UInt8.toNat_ofNat']; omega
theorem vD_dec (m : Nat) : valD (decDigits m) = m:=by
 induction m using Nat.strongRecOn with
 | _ u ih =>
  by_cases hu : u < 10
  ·rw [decDigits,dif_pos hu]
   exact (vD_dig [] u hu).trans (by show 10 * 0 + u = u; omega)
  ·rw [decDigits,dif_neg hu,vD_dig _ _ (by omega),ih (u / 10) (by omega)]; omega
theorem dD_step (m : Nat) (h : 10 ≤ m) : decDigits m = decDigits (m / 10) ++ [UInt8.ofNat (48 + m % 10)]:=by
 conv => lhs; rw [decDigits,dif_neg (by omega)]
def fourD (f : Nat) : List UInt8:=[UInt8.ofNat (48 + f / 1000),UInt8.ofNat (48 + f / 100 % 10),UInt8.ofNat (48 + f / 10 % 10),UInt8.ofNat (48 + f % 10)]
theorem four_eq (f : Nat) (h : f < 10000) : (decDigits (10000 + f)).drop 1 = fourD f:=by
 rw [dD_step _ (by omega),dD_step _ (by omega),dD_step _ (by omega),dD_step _ (by omega)]
 have e : (10000 + f) / 10 / 10 / 10 / 10 = 1:=by omega
 rw [e,show decDigits 1 = [49] from by rw [decDigits,dif_pos (by decide)]; rfl]
 unfold fourD
 rw [show (10000 + f) / 10 / 10 / 10 % 10 = f / 1000 by omega,show (10000 + f) / 10 / 10 % 10 = f / 100 % 10 by omega,show (10000 + f) / 10 % 10 = f / 10 % 10 by omega,show (10000 + f) % 10 = f % 10 by omega]
 rfl
theorem four_val (w : List UInt8) (f : Nat) (h : f < 10000) : valD (w ++ fourD f) = valD w * 10000 + f:=by
 unfold fourD
 rw [show ∀ a b c d : UInt8,w ++ [a,b,c,d] = (((w ++ [a]) ++ [b]) ++ [c]) ++ [d] from fun _ _ _ _ => by simp,vD_dig _ _ (by omega),vD_dig _ _ (by omega),vD_dig _ _ (by omega),vD_dig _ _ (by omega)]
 omega
theorem four_dig (f : Nat) (h : f < 10000) : ∀ b ∈ fourD f,isDig b = true:=by
 intro b hb
 unfold fourD at hb
 simp only [List.mem_cons,List.not_mem_nil,or_false] at hb
 rcases hb with rfl | rfl | rfl | rfl
 all_goals (show decide _ = true; rw [decide_eq_true_eq,UInt8.toNat_ofNat']; omega)
theorem trim_split (l : List UInt8) : ∃ j,l = trimZ l ++ List.replicate j 48:=by
 obtain ⟨h1,h2,-⟩:=run_split (· == 48) l.reverse
 refine ⟨(l.reverse.takeWhile (· == 48)).length,?_⟩
 have e : l.reverse.takeWhile (· == 48) = List.replicate (l.reverse.takeWhile (· == 48)).length 48:=List.eq_replicate_iff.2 ⟨rfl,fun b hb => by simpa using h2 b hb⟩
 have h3:=congrArg List.reverse h1
 rw [List.reverse_reverse,List.reverse_append] at h3
 conv => lhs; rw [h3]
 unfold trimZ
 congr 1
 conv => lhs; rw [e]
 rw [List.reverse_replicate]
theorem Sep.dig {y : List UInt8} (h : Sep y) : stops isDig y = true ∧ placesS y = []:=by
 cases y with
 | nil => exact ⟨rfl,rfl⟩
 | cons b r =>
  have:=sep_no b (h b r rfl)
  exact ⟨by simp [stops,this.2.2.2.2.2],by rw [placesS,if_neg this.2.2.2.1]⟩
theorem zeros_val (w : List UInt8) : valD (w ++ List.replicate 4 48) = valD w * 10000:=by
 have:=four_val w 0 (by decide)
 rw [show fourD 0 = List.replicate 4 48 from rfl] at this
 rw [this,Nat.add_zero]
theorem tok_num (k : Nat) (a : Int) (y : List UInt8) (h0 : 0 ≤ a) (h1 : a ≤ 9223372036854775807) (hs : Sep y) : tokS k (decS a ++ y) = some (⟨1,a,[],R4.zero,k⟩,(decS a).length):=by
 obtain ⟨n,rfl⟩ : ∃ n : Nat,a = n:=⟨a.toNat,by omega⟩
 have hq : ∀ b ∈ decDigits (n / 10000),isDig b = true:=fun b hb => List.all_eq_true.1 (dec_dig _) b hb
 have key : ∀ (p : List UInt8) (j : Nat),(p = [] ∧ j = 4 ∧ n % 10000 = 0 ∨ (p ≠ [] ∧ fourD (n % 10000) = p ++ List.replicate j 48)) → decS (n : Int) = decDigits (n / 10000) ++ (if p = [] then [] else 46 :: p) → (p ≠ [] → ∀ b ∈ p,isDig b = true) →
   tokS k (decS (n : Int) ++ y) = some (⟨1,(n : Int),[],R4.zero,k⟩,(decS (n : Int)).length):=by
  intro p j hp e hpd
  have hlen : p.length + j = 4:=by
   rcases hp with ⟨rfl,rfl,-⟩ | ⟨-,g⟩
   ·rfl
   ·have:=congrArg List.length g
    rw [List.length_append,List.length_replicate] at this
    exact this.symm
  have hval : numV (decDigits (n / 10000)) p = n:=by
   unfold numV
   rw [show 4 - p.length = j by omega]
   rcases hp with ⟨rfl,rfl,g⟩ | ⟨-,g⟩
   ·rw [List.append_nil,zeros_val,vD_dec]; omega
   ·rw [List.append_assoc,← g,four_val _ _ (by omega),vD_dec]; omega
  have hnum : numS (decDigits (n / 10000) ++ ((if p = [] then [] else 46 :: p) ++ y)) = some ((n : Int),(decDigits (n / 10000)).length + if p = [] then 0 else p.length + 1):=by
   have hrest : stops isDig ((if p = [] then [] else 46 :: p) ++ y) = true:=by
    by_cases g : p = []
    ·rw [if_pos g]; exact hs.dig.1
    ·rw [if_neg g]; rfl
   have hpl : placesS ((if p = [] then [] else 46 :: p) ++ y) = p:=by
    by_cases g : p = []
    ·rw [if_pos g,g]; exact hs.dig.2
    ·rw [if_neg g]
     show placesS (46 :: (p ++ y)) = p
     rw [placesS,if_pos rfl]
     exact (take_stop isDig p y (hpd g) hs.dig.1).1
   obtain ⟨g1,g2⟩:=take_stop isDig _ _ hq hrest
   unfold numS
   simp only [g1,g2,hpl,hval]
   rw [if_neg]
   rintro (g | g | g)
   ·have:=vD_dec (n / 10000)
    rw [g] at this
    rw [decDigits] at g
    split at g <;> simp at g
   ·omega
   ·omega
  rw [e,List.append_assoc]
  cases hd : decDigits (n / 10000) with
  | nil => rw [decDigits] at hd; split at hd <;> simp at hd
  | cons b w =>
   rw [hd] at hnum hq
   have hb:=hq b (by simp)
   show tokS k (b :: (w ++ _)) = _
   rw [tokS,if_pos hb]
   show (numS ((b :: w) ++ _)).map _ = _
   rw [hnum]
   by_cases g : p = []
   ·simp [g]
   ·simp [g]
    omega
 have hdec : decS (n : Int) = decDigits (n / 10000) ++ (if n % 10000 = 0 then [] else 46 :: trimZ (fourD (n % 10000))):=by
  unfold decS
  rw [if_neg (by omega),Int.natAbs_natCast,four_eq (n % 10000) (by omega)]
  rfl
 by_cases hf : n % 10000 = 0
 ·refine key [] 4 (.inl ⟨rfl,rfl,hf⟩) ?_ (fun g => absurd rfl g)
  rw [hdec,if_pos hf,if_pos rfl]
 ·obtain ⟨j,hj⟩:=trim_split (fourD (n % 10000))
  have hne : trimZ (fourD (n % 10000)) ≠ []:=by
   intro g
   rw [g,List.nil_append] at hj
   have hv:=four_val [] (n % 10000) (by omega)
   have hl:=congrArg List.length hj
   rw [List.length_replicate] at hl
   have : j = 4:=hl.symm
   rw [List.nil_append,hj,this] at hv
   have hz : valD (List.replicate 4 48) = 0:=by decide
   rw [hz] at hv
   have : valD [] = 0:=rfl
   omega
  refine key (trimZ (fourD (n % 10000))) j (.inr ⟨hne,hj⟩) ?_ (fun _ b hb => ?_)
  ·rw [hdec,if_neg hf,if_neg hne]
  ·exact four_dig (n % 10000) (by omega) b (by rw [hj]; exact List.mem_append_left _ hb)
end Go.Proofs.YtnbemkiplnanlaaGreatDoor
namespace Go.Proofs.YtnbemkiplnanlaaGreatDoor
open Go.RowKit
open Go.Lib (decDigits)
def rngT (r : R4) : List UInt8:=(formatS r.c1 r.r1).1 ++ (if r.c1 = r.c2 ∧ r.r1 = r.r2 then [] else 58 :: (formatS r.c2 r.r2).1)
def tkT (t : Tk) : List UInt8 :=
 if t.kind = 1 then decS t.num else if t.kind = 2 then quoteS t.text else if t.kind = 3 then (if t.num = 1 then trueB else falseB)
 else if t.kind = 4 then (errNames[t.num.toNat - 1]?).getD [] else if t.kind = 5 then rngT t.r else if t.kind = 6 then rngT t.r else if t.kind = 7 then t.text
 else if t.kind = 8 then opText t.num else if t.kind = 9 then [40] else if t.kind = 10 then [41] else [44]
inductive OkC : Tk → Prop
 | num (n : Int) (a : Nat) (h0 : 0 ≤ n) (h1 : n ≤ 9223372036854775807) : OkC ⟨1,n,[],R4.zero,a⟩
 | text (s : List UInt8) (a : Nat) (hp : s.all plainB = true) : OkC ⟨2,0,s,R4.zero,a⟩
 | yes (a : Nat) : OkC ⟨3,1,[],R4.zero,a⟩
 | no (a : Nat) : OkC ⟨3,0,[],R4.zero,a⟩
 | err (c a : Nat) (h1 : 1 ≤ c) (h5 : c ≤ 5) : OkC ⟨4,(c : Int),[],R4.zero,a⟩
 | ref (c r : Int) (a : Nat) (h : validN c r = true) : OkC ⟨5,0,[],⟨c,r,c,r⟩,a⟩
 | rng (r : R4) (a : Nat) (h : checkB r = true) (hn : ¬ (r.c1 = r.c2 ∧ r.r1 = r.r2)) : OkC ⟨6,0,[],r,a⟩
 | name (s : List UInt8) (a : Nat) (h : nameB s = true) : OkC ⟨7,0,s,R4.zero,a⟩
 | op (n : Int) (a : Nat) (h1 : 1 ≤ n) (h13 : n ≤ 13) : OkC ⟨8,n,[],R4.zero,a⟩
 | lp (a : Nat) : OkC ⟨9,0,[],R4.zero,a⟩
 | rp (a : Nat) : OkC ⟨10,0,[],R4.zero,a⟩
 | comma (a : Nat) : OkC ⟨11,0,[],R4.zero,a⟩
def After (t : Tk) (y : List UInt8) : Prop:=(t.kind ≤ 6 → Sep y) ∧ (t.kind = 7 → ∃ r,y = 40 :: r) ∧ (t.kind = 8 → t.num = 9 ∨ t.num = 11 → Opn y)
def Tk.at (t : Tk) (k : Nat) : Tk:={ t with at_:=k }
theorem tok_of {t : Tk} (h : OkC t) (k : Nat) (y : List UInt8) (hy : After t y) : tokS k (tkT t ++ y) = some (t.at k,(tkT t).length) ∧ tkT t ≠ []:=by
 have ne : ∀ {X : List UInt8} {q : Tk},tokS k (X ++ y) = some (q,X.length) → X ≠ []:=by
  rintro X q g rfl
  have:=(tok_le g).1
  simp at this
 cases h with
 | num n a h0 h1 => have:=tok_num k n y h0 h1 (hy.1 (by simp)); exact ⟨this,ne this⟩
 | text s a hp => have:=tok_text k s y (hy.1 (by simp)); exact ⟨this,ne this⟩
 | yes a => exact ⟨tok_true k y (hy.1 (by simp)),by simp [tkT,trueB]⟩
 | no a => exact ⟨tok_false k y (hy.1 (by simp)),by simp [tkT,falseB]⟩
 | err c a h1 h5 =>
  obtain ⟨x,e,g⟩:=tok_err k c y h1 h5
  have e2 : tkT ⟨4,(c : Int),[],R4.zero,a⟩ = x:=by
   show (errNames[((c : Int)).toNat - 1]?).getD [] = x
   rw [Int.toNat_natCast,e]; rfl
  rw [e2]
  exact ⟨g,ne g⟩
 | ref c r a h =>
  have e2 : tkT ⟨5,0,[],⟨c,r,c,r⟩,a⟩ = (formatS c r).1:=by
   show rngT ⟨c,r,c,r⟩ = _
   unfold rngT
   rw [if_pos ⟨rfl,rfl⟩,List.append_nil]
  rw [e2]
  have:=tok_ref k c r y h (hy.1 (by simp))
  exact ⟨this,ne this⟩
 | rng r a h hn =>
  obtain ⟨c1,r1,c2,r2⟩:=r
  have e2 : tkT ⟨6,0,[],⟨c1,r1,c2,r2⟩,a⟩ = (formatS c1 r1).1 ++ 58 :: (formatS c2 r2).1:=by
   show rngT ⟨c1,r1,c2,r2⟩ = _
   unfold rngT
   rw [if_neg hn]
  unfold checkB at h
  simp only [Bool.and_eq_true,decide_eq_true_eq] at h
  have:=tok_range k c1 r1 c2 r2 y h.1.1.1 h.1.1.2 h.1.2 h.2 hn (hy.1 (by simp))
  rw [e2]
  have g : tokS k ((formatS c1 r1).1 ++ 58 :: (formatS c2 r2).1 ++ y) = some (Tk.at ⟨6,0,[],⟨c1,r1,c2,r2⟩,a⟩ k,((formatS c1 r1).1 ++ 58 :: (formatS c2 r2).1).length):=by
   rw [List.append_assoc,List.cons_append,this]
   simp [Tk.at]
   omega
  exact ⟨g,ne g⟩
 | name s a h =>
  obtain ⟨r,rfl⟩:=hy.2.1 rfl
  have:=tok_name k s r h
  exact ⟨this,ne this⟩
 | op n a h1 h13 => have:=tok_op k n y h1 h13 (hy.2.2 rfl); exact ⟨this,ne this⟩
 | lp a => exact ⟨tok_mark k 40 9 y (.inl ⟨rfl,rfl⟩),by simp [tkT]⟩
 | rp a => exact ⟨tok_mark k 41 10 y (.inr (.inl ⟨rfl,rfl⟩)),by simp [tkT]⟩
 | comma a => exact ⟨tok_mark k 44 11 y (.inr (.inr ⟨rfl,rfl⟩)),by simp [tkT]⟩
def txT (ts : List Tk) : List UInt8:=ts.flatMap tkT
def placeT : Nat → List Tk → List Tk
 | _,[] => []
 | k,t :: ts => t.at k :: placeT (k + (tkT t).length) ts
def Chain : List Tk → List UInt8 → Prop
 | [],_ => True
 | t :: ts,y => OkC t ∧ After t (txT ts ++ y) ∧ Chain ts y
theorem txT_cons (t : Tk) (ts : List Tk) : txT (t :: ts) = tkT t ++ txT ts:=rfl
theorem txT_app (a b : List Tk) : txT (a ++ b) = txT a ++ txT b:=by unfold txT; rw [List.flatMap_append]
theorem Chain.app {a b : List Tk} {y : List UInt8} (h : Chain a (txT b ++ y)) (g : Chain b y) : Chain (a ++ b) y:=by
 induction a with
 | nil => exact g
 | cons t a ih =>
  obtain ⟨h1,h2,h3⟩:=h
  exact ⟨h1,by show After t (txT (a ++ b) ++ y); rw [txT_app,List.append_assoc]; exact h2,ih h3⟩
theorem chain_lex : ∀ (ts : List Tk) (k : Nat) (y : List UInt8),Chain ts y → Lex k (txT ts) (placeT k ts) y
 | [],k,y,_ => .nil k y
 | t :: ts,k,y,⟨h1,h2,h3⟩ => by
  obtain ⟨g,gn⟩:=tok_of h1 k _ h2
  rw [txT_cons]
  show Lex k (tkT t ++ txT ts) (t.at k :: placeT (k + (tkT t).length) ts) y
  have ih:=chain_lex ts (k + (tkT t).length) y h3
  cases hx : tkT t with
  | nil => exact absurd hx gn
  | cons b x =>
   rw [hx] at g ih
   exact .tok g ih
theorem tok_61 (k : Nat) (r : List UInt8) : ∃ q,tokS k (61 :: r) = some q ∧ q.1.kind = 8 ∧ q.1.num = 7:=by
 refine ⟨(⟨8,7,[],R4.zero,k⟩,1),?_,rfl,rfl⟩
 rw [tokS,if_neg (by decide),if_neg (by decide),if_neg (by decide)]; rfl
theorem tok_62 (k : Nat) (r : List UInt8) : ∃ q,tokS k (62 :: r) = some q ∧ q.1.kind = 8 ∧ 11 ≤ q.1.num:=by
 rw [tokS,if_neg (by decide),if_neg (by decide),if_neg (by decide)]
 by_cases h : r.head? = some 61
 ·exact ⟨(⟨8,12,[],R4.zero,k⟩,2),by simp [errS,errNames,errF,opS,h]; rfl,rfl,(by decide : (11 : Int) ≤ 12)⟩
 ·exact ⟨(⟨8,11,[],R4.zero,k⟩,1),by simp [errS,errNames,errF,opS,h]; rfl,rfl,(by decide : (11 : Int) ≤ 11)⟩
theorem fst_tok {t : Tk} (h : OkC t) (hk : t.kind = 8 → t.num = 2) (b : UInt8) (x : List UInt8) (e : tkT t = b :: x) : b ≠ 61 ∧ b ≠ 62:=by
 obtain ⟨y,hy⟩ : ∃ y,After t y:=by
  by_cases h7 : t.kind = 7
  ·exact ⟨[40],fun g => by omega,fun _ => ⟨[],rfl⟩,fun g => by omega⟩
  ·exact ⟨[],fun _ b r e => (by cases e),fun g => absurd g h7,fun _ _ b r e => (by cases e)⟩
 have g:=(tok_of h 0 y hy).1
 rw [e] at g
 constructor
 ·rintro rfl
  obtain ⟨q,h1,h2,h3⟩:=tok_61 0 (x ++ y)
  rw [List.cons_append,h1] at g
  obtain rfl:=Option.some.inj g
  have:=hk h2
  have h3' : t.num = 7:=h3
  omega
 ·rintro rfl
  obtain ⟨q,h1,h2,h3⟩:=tok_62 0 (x ++ y)
  rw [List.cons_append,h1] at g
  obtain rfl:=Option.some.inj g
  have:=hk h2
  have h3' : 11 ≤ t.num:=h3
  omega
theorem sep_op {t : Tk} (h : OkC t) (h8 : t.kind = 8) (y : List UInt8) : Sep (tkT t ++ y):=by
 cases h with
 | op n a h1 h13 =>
  have g : n = 1 ∨ n = 2 ∨ n = 3 ∨ n = 4 ∨ n = 5 ∨ n = 6 ∨ n = 7 ∨ n = 8 ∨ n = 9 ∨ n = 10 ∨ n = 11 ∨ n = 12 ∨ n = 13:=by omega
  rcases g with rfl | rfl | rfl | rfl | rfl | rfl | rfl | rfl | rfl | rfl | rfl | rfl | rfl
  all_goals (intro b r e; obtain ⟨rfl,-⟩:=List.cons.inj e; decide)
 | _ => simp at h8
theorem mark_of {t : Tk} (_h : OkC t) : (t.kind = 9 → tkT t = [40]) ∧ (t.kind = 10 → tkT t = [41]) ∧ (t.kind = 11 → tkT t = [44]):=by
 refine ⟨fun e => ?_,fun e => ?_,fun e => ?_⟩ <;> simp [tkT,e]
theorem sep_41 (y : List UInt8) : Sep (41 :: y):=fun b r e => by obtain ⟨rfl,-⟩:=List.cons.inj e; decide
theorem sep_44 (y : List UInt8) : Sep (44 :: y):=fun b r e => by obtain ⟨rfl,-⟩:=List.cons.inj e; decide
def Fst (ts : List Tk) : Prop:=∀ y b r,txT ts ++ y = b :: r → b ≠ 61 ∧ b ≠ 62
theorem fst_cons {t : Tk} (h : OkC t) (hk : t.kind = 8 → t.num = 2) (ts : List Tk) : Fst (t :: ts):=by
 intro y b r e
 obtain ⟨z,hz⟩ : ∃ z,After t z:=by
  by_cases h7 : t.kind = 7
  ·exact ⟨[40],fun g => by omega,fun _ => ⟨[],rfl⟩,fun g => by omega⟩
  ·exact ⟨[],fun _ b r e => (by cases e),fun g => absurd g h7,fun _ _ b r e => (by cases e)⟩
 have hn:=(tok_of h 0 z hz).2
 rw [txT_cons] at e
 cases hx : tkT t with
 | nil => exact absurd hx hn
 | cons c x =>
  rw [hx] at e
  obtain ⟨rfl,-⟩:=List.cons.inj e
  exact fst_tok h hk c x hx
theorem Fst.app {a : List Tk} (h : Fst a) (_hn : a ≠ []) (b : List Tk) : Fst (a ++ b):=by
 intro y c r e
 rw [txT_app,List.append_assoc] at e
 exact h _ c r e
def CtM (m : Cm) (ts : List Tk) : Prop:=(∀ y,Sep y → Chain ts y) ∧ ts ≠ [] ∧ match m with
 | .ar _ _ => True
 | _ => Fst ts
theorem after6 {t : Tk} (h : t.kind ≤ 6) {y : List UInt8} (hy : Sep y) : After t y:=⟨fun _ => hy,fun e => by omega,fun e => by omega⟩
theorem after8 {t : Tk} (h : t.kind = 8) {y : List UInt8} (hy : Opn y) : After t y:=⟨fun e => by omega,fun e => by omega,fun _ _ => hy⟩
theorem after9 {t : Tk} (h : 9 ≤ t.kind) (y : List UInt8) : After t y:=⟨fun e => by omega,fun e => by omega,fun e => by omega⟩
theorem cn_chain {m : Cm} {ts : List Tk} {ns : List Nd} {n : Nat} (h : Cn m ts ns n) : (∀ t ∈ ts,OkC t) → CtM m ts:=by
 induction h with
 | @val t h1 h4 => intro hk; have ok:=hk t (by simp); exact ⟨fun y hy => ⟨ok,after6 (by omega) hy,trivial⟩,by simp,fst_cons ok (by omega) []⟩
 | @ref t h5 => intro hk; have ok:=hk t (by simp); exact ⟨fun y hy => ⟨ok,after6 (by omega) hy,trivial⟩,by simp,fst_cons ok (by omega) []⟩
 | @neg t ts ns h8 h2 h ih =>
  intro hk
  have ok:=hk t (by simp)
  obtain ⟨c,hn,hf⟩:=ih fun x hx => hk x (by simp [hx])
  exact ⟨fun y hy => ⟨ok,after8 h8 (fun b r e => hf y b r e),c y hy⟩,by simp,fst_cons ok (fun _ => h2) ts⟩
 | @pct t ts ns h8 h13 h ih =>
  intro hk
  have ok:=hk t (by simp)
  obtain ⟨c,hn,hf⟩:=ih fun x hx => hk x (by simp [hx])
  refine ⟨fun y hy => Chain.app (c _ ?_) ⟨ok,⟨fun e => by omega,fun e => by omega,fun _ e => by omega⟩,trivial⟩,by simp,hf.app hn [t]⟩
  show Sep (txT [t] ++ y)
  rw [txT_cons,List.append_assoc]
  exact sep_op ok h8 _
 | @bin t k ts us ns ms h8 hk1 h1 h4 h g ih ig =>
  intro hk
  have ok:=hk t (by simp)
  obtain ⟨c,hn,hf⟩:=ih fun x hx => hk x (by simp [hx])
  obtain ⟨c2,hn2,hf2⟩:=ig fun x hx => hk x (by simp [hx])
  refine ⟨fun y hy => Chain.app (c _ ?_) ⟨ok,after8 h8 (fun b r e => hf2 y b r e),c2 y hy⟩,by simp,hf.app hn _⟩
  rw [txT_cons,List.append_assoc]
  exact sep_op ok h8 _
 | @pow t ts us ns ms h8 h5 h g ih ig =>
  intro hk
  have ok:=hk t (by simp)
  obtain ⟨c,hn,hf⟩:=ih fun x hx => hk x (by simp [hx])
  obtain ⟨c2,hn2,hf2⟩:=ig fun x hx => hk x (by simp [hx])
  refine ⟨fun y hy => Chain.app (c _ ?_) ⟨ok,after8 h8 (fun b r e => hf2 y b r e),c2 y hy⟩,by simp,hf.app hn _⟩
  rw [txT_cons,List.append_assoc]
  exact sep_op ok h8 _
 | @call t o c ts ns n h7 hf ho h hc h1 h2 hd ih =>
  intro hk
  have ok:=hk t (by simp)
  have oo:=hk o (by simp)
  have oc:=hk c (by simp)
  obtain ⟨ch,hn,-⟩:=ih fun x hx => hk x (by simp [hx])
  refine ⟨fun y hy => ⟨ok,⟨fun e => by omega,fun _ => ⟨txT (ts ++ [c]) ++ y,?_⟩,fun e => by omega⟩,oo,after9 (by omega) _,Chain.app (ch _ ?_) ⟨oc,after9 (by omega) _,trivial⟩⟩,by simp,fst_cons ok (by omega) _⟩
  ·rw [txT_cons,(mark_of oo).1 ho]; rfl
  ·rw [txT_cons,(mark_of oc).2.1 hc]; exact sep_41 _
 | bare hs h ih => intro hk; exact ih hk
 | @par l s o c ts ns ho hc h ih =>
  intro hk
  have oo:=hk o (by simp)
  have oc:=hk c (by simp)
  obtain ⟨ch,hn,-⟩:=ih fun x hx => hk x (by simp [hx])
  refine ⟨fun y hy => ⟨oo,after9 (by omega) _,Chain.app (ch _ ?_) ⟨oc,after9 (by omega) _,trivial⟩⟩,by simp,fst_cons oo (by omega) _⟩
  rw [txT_cons,(mark_of oc).2.1 hc]; exact sep_41 _
 | argE h ih => intro hk; obtain ⟨c,hn,-⟩:=ih hk; exact ⟨c,hn,trivial⟩
 | @argC fn i s c ts us ns ms m h hc g ih ig =>
  intro hk
  have oc:=hk c (by simp)
  obtain ⟨ch,hn,-⟩:=ih fun x hx => hk x (by simp [hx])
  obtain ⟨c2,hn2,-⟩:=ig fun x hx => hk x (by simp [hx])
  refine ⟨fun y hy => Chain.app (ch _ ?_) ⟨oc,after9 (by omega) _,c2 y hy⟩,by simp,trivial⟩
  rw [txT_cons,(mark_of oc).2.2 hc]; exact sep_44 _
 | @rngE fn i t h6 hw => intro hk; have ok:=hk t (by simp); exact ⟨fun y hy => ⟨ok,after6 (by omega) hy,trivial⟩,by simp,trivial⟩
 | @rngC fn i t c us ms m h6 hw hc g ig =>
  intro hk
  have ok:=hk t (by simp)
  have oc:=hk c (by simp)
  obtain ⟨c2,hn2,-⟩:=ig fun x hx => hk x (by simp [hx])
  refine ⟨fun y hy => ⟨ok,after6 (by omega) ?_,oc,after9 (by omega) _,c2 y hy⟩,by simp,trivial⟩
  rw [txT_cons,(mark_of oc).2.2 hc]; exact sep_44 _
theorem cn_lex {s : Nat} {ts : List Tk} {ns : List Nd} (h : Cn (.tr s) ts ns 0) (hk : ∀ t ∈ ts,OkC t) : Lex 0 (txT ts) (placeT 0 ts) [] :=
 chain_lex ts 0 [] ((cn_chain h hk).1 [] fun b r e => by cases e)
end Go.Proofs.YtnbemkiplnanlaaGreatDoor
