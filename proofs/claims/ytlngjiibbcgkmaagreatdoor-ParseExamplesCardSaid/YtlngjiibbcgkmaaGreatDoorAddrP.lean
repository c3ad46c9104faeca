/- Plain helpers of this claim: what a slice of numbers or of structs reads as, and how it is kept. No program stands here but by its name. The contract of addr.Valid. Plain lemmas on addresses: what letters and digits say, and that reading and writing are inverse. No program stands here. Plain: ranges, and what package rect's small functions compute. No program stands here but by the name of its kit. -/
import Derived.Test.YtlngjiibbcgkmaaGreatDoorRows
import Derived.WalkKit
import Derived.WalkSpells
import Derived.WalkLawsBesides
import Derived.Lib.Hide
import Derived.Deep.Slices
import Derived.Deep.Fields
import Derived.ChangeSame
import Derived.Lib.LaidTab
import Derived.Laws.OwnMore
import Derived.Deep.Draws
import Derived.Laws.Rows
import Derived.Deep.OwnRows
import Derived.Lib.ItoaNum
namespace Go.Proofs.YtlngjiibbcgkmaaGreatDoor
open Go.RowKit
theorem block_add (a : Addr) (n : Nat) : (a.add n).block = a.block:=by unfold Addr.add; split <;> rfl
theorem below_step {w W W' : World} (h : Below w.heap.size w W) (k : Below W.heap.size W W') : Below w.heap.size w W':=h.trans (k.mono h.size)
theorem cell_step {W W' : World} {p : Addr} {v : Value} (k : Below W.heap.size W W') (h : W.cell? p = some v) : W'.cell? p = some v:=(k.cell (World.block_lt_of_cell? W p h)).trans h
theorem beq0 (x : Nat) : ((x : Int) == 0) = (x == 0):=by rw [Bool.eq_iff_iff]; simp
def IsRows (s : Nat) (w : World) (B : Nat) (a : Option Addr) (n : Nat) (g : Nat → Nat → Value) : Prop :=
 0 < n → ∃ ad,a = some ad ∧ ad.block < B ∧ ∀ i j,i < n → j < s → w.cell? (ad.add (i * s + j)) = some (g i j)
def IsInts (k : IntKind) (w : World) (B : Nat) (a : Option Addr) (n : Nat) (f : Nat → Int) : Prop :=
 0 < n → ∃ ad,a = some ad ∧ ad.block < B ∧ ∀ i,i < n → w.cell? (ad.add i) = some (.int k (f i))
def IsNums (k : IntKind) (w : World) (B : Nat) (a : Option Addr) (n : Nat) (f : Nat → Nat) : Prop :=
 0 < n → ∃ ad,a = some ad ∧ ad.block < B ∧ ∀ i,i < n → w.cell? (ad.add i) = some (.int k (f i : Nat))
section
variable {w w' : World} {B B' n s : Nat} {a : Option Addr} {k : IntKind}
theorem IsNums.below {f : Nat → Nat} (h : IsNums k w B a n f) (hb : Below B w w') (hB : B ≤ B') : IsNums k w' B' a n f:=by
 intro hn
 obtain ⟨ad,e,h1,h2⟩:=h hn
 exact ⟨ad,e,by omega,fun i hi => (hb.cell (by rw [block_add]; exact h1)).trans (h2 i hi)⟩
theorem IsInts.below {f : Nat → Int} (h : IsInts k w B a n f) (hb : Below B w w') (hB : B ≤ B') : IsInts k w' B' a n f:=by
 intro hn
 obtain ⟨ad,e,h1,h2⟩:=h hn
 exact ⟨ad,e,by omega,fun i hi => (hb.cell (by rw [block_add]; exact h1)).trans (h2 i hi)⟩
theorem IsRows.below {g : Nat → Nat → Value} (h : IsRows s w B a n g) (hb : Below B w w') (hB : B ≤ B') : IsRows s w' B' a n g:=by
 intro hn
 obtain ⟨ad,e,h1,h2⟩:=h hn
 exact ⟨ad,e,by omega,fun i j hi hj => (hb.cell (by rw [block_add]; exact h1)).trans (h2 i j hi hj)⟩
end
theorem only_drew {a w : World} {row : Option Nat} (h : a.grownBy w row) : a.grownBy w.drew row:=⟨h.os,h.tape,h.output,h.size,h.block⟩
theorem only_setCell {a w : World} {g : Nat} (h : a.grownBy w (some g)) {p : Addr} (hp : p.block = g ∨ a.heap.size ≤ p.block) (u : Value) : a.grownBy (w.setCell p u) (some g) :=
 ⟨h.os,h.tape,h.output,by simpa [World.setCell] using h.size,fun i hi hne => (Below.heap_setCell w p u i (by
  rintro rfl
  rcases hp with hp | hp
  ·exact hne (by rw [hp])
  ·omega)).trans (h.block i hi hne)⟩
theorem only_of_below {a w : World} (h : Below a.heap.size a w) (row : Option Nat) : a.grownBy w row:=⟨h.os,h.tape,h.output,h.size,fun i hi _ => h.block i hi⟩
def Blk (w : World) (g : Nat) (t : TypeId) (cs : Array Value) : Prop:=w.heap[g]? = some (.cells cs t (0,0))
section
variable {w w' : World} {g : Nat} {t : TypeId} {cs : Array Value}
theorem Blk.lt (h : Blk w g t cs) : g < w.heap.size:=by
 rcases Nat.lt_or_ge g w.heap.size with hlt | hge
 ·exact hlt
 ·unfold Blk at h; rw [Array.getElem?_eq_none hge] at h; cases h
theorem Blk.cell (h : Blk w g t cs) (i : Nat) : w.cell? ⟨g,i,none⟩ = cs[i]?:=cell_of_row w g i cs t (0,0) h
theorem Blk.frozen (h : Blk w g t cs) (i : Nat) : w.frozen? ⟨g,i,none⟩ = false:=by
 unfold Blk at h
 simp [World.frozen?,h]
theorem Blk.new (w : World) (t : TypeId) (cs : Array Value) : Blk (w.alloc (.cells cs t)) w.heap.size t cs:=heap_alloc_new w _
theorem Blk.drew (h : Blk w g t cs) : Blk w.drew g t cs:=h
theorem Blk.alloc (h : Blk w g t cs) (o : Obj) : Blk (w.alloc o) g t cs:=(Below.heap_alloc w o g h.lt).trans h
theorem Blk.set_ (h : Blk w g t cs) (i : Nat) (u : Value) : Blk (w.setCell ⟨g,i,none⟩ u) g t (cs.setIfInBounds i u):=by
 unfold Blk at h ⊢
 simp [World.setCell,Array.getElem?_modify,h]
theorem Blk.far (h : Blk w g t cs) {p : Addr} (hp : g ≠ p.block) (u : Value) : Blk (w.setCell p u) g t cs:=(Below.heap_setCell w p u g hp).trans h
theorem Blk.below {B : Nat} (h : Blk w g t cs) (hb : Below B w w') (hg : g < B) : Blk w' g t cs:=(hb.block g hg).trans h
theorem Blk.grown {row : Option Nat} (h : Blk w g t cs) (hb : w.grownBy w' row) (hg : some g ≠ row) : Blk w' g t cs:=(hb.block g h.lt hg).trans h
end
section
open Go.ChangeShapes Go.WideShapes Go.Deep
variable {H : Type} {enc : TypeId × Value → H} {P : Program} {w : World} {base : Nat} {spare : Nat → Bool} {held : Bool}
end
end Go.Proofs.YtlngjiibbcgkmaaGreatDoor
namespace Go.Proofs.YtlngjiibbcgkmaaGreatDoor
open Go.RowKit
def validN (c r : Int) : Bool:=decide (1 ≤ c ∧ c ≤ 1024 ∧ 1 ≤ r ∧ r ≤ 1024)
theorem validN_cases (c r : Int) (P : Prop) (h1 : ¬ 1 ≤ c → P) (h2 : 1 ≤ c → ¬ c ≤ 1024 → P) (h3 : 1 ≤ c → c ≤ 1024 → ¬ 1 ≤ r → P) (h4 : 1 ≤ c → c ≤ 1024 → 1 ≤ r → ¬ r ≤ 1024 → P) (h5 : 1 ≤ c → c ≤ 1024 → 1 ≤ r → r ≤ 1024 → P) : P:=by
 by_cases a : 1 ≤ c
 ·by_cases b : c ≤ 1024
  ·by_cases d : 1 ≤ r
   ·by_cases e : r ≤ 1024
    ·exact h5 a b d e
    ·exact h4 a b d e
   ·exact h3 a b d
  ·exact h2 a b
 ·exact h1 a
theorem addr_Valid (c r : Int) (w : World) :
  Calls Tryz.prog 100 #[.agg #[.int .i64 c,.int .i64 r]] w fun e w' => e = .returned (.bool (validN c r)) ∧ Below w.heap.size w w':=by
 apply validN_cases c r <;> intros
 all_goals
  go_enter Tryz.func100,Tryz.ntmps100
  go_wp2
  go_ret
  exact ⟨by simp only [Array.getD_eq_getD_getElem?]; simp [validN]; try omega,(Below.refl _ _).alloc (Nat.le_refl _) _⟩
end Go.Proofs.YtlngjiibbcgkmaaGreatDoor
namespace Go.Proofs.YtlngjiibbcgkmaaGreatDoor
def letV (b : UInt8) : Nat:=if 65 ≤ b.toNat ∧ b.toNat ≤ 90 then b.toNat - 64 else if 97 ≤ b.toNat ∧ b.toNat ≤ 122 then b.toNat - 96 else 0
def isLet (b : UInt8) : Bool:=letV b != 0
def isDig (b : UInt8) : Bool:=decide (48 ≤ b.toNat ∧ b.toNat ≤ 57)
def stepC (n : Nat) (b : UInt8) : Nat:=min (26 * n + letV b) 1025
def stepR (n : Nat) (b : UInt8) : Nat:=min (10 * n + (b.toNat - 48)) 1025
def colOf (l : List UInt8) : Nat:=l.foldl stepC 0
def rowOf (l : List UInt8) : Nat:=l.foldl stepR 0
def parseS (l : List UInt8) : Int × Int × Int :=
 let a:=l.takeWhile isLet
 let d:=l.dropWhile isLet
 if a = [] ∨ d = [] ∨ d.head? = some 48 ∨ d.all isDig = false then (0,0,4)
 else if 1024 < colOf a ∨ 1024 < rowOf d then (0,0,3)
 else (colOf a,rowOf d,0)
def columnS (l : List UInt8) : Int × Int :=
 if l = [] ∨ l.all isLet = false then (0,4) else if 1024 < colOf l then (0,3) else (colOf l,0)
structure Pc where
 m0 : Nat
 m1 : Nat
 v0 : Nat
 v1 : Nat
 ok : Bool
def Pc.start : Pc:=⟨0,0,0,0,true⟩
def Pc.letter (p : Pc) (b : UInt8) : Pc:=⟨p.m0 + 1,p.m1,stepC p.v0 b,p.v1,p.ok && p.m1 == 0⟩
def Pc.digit (p : Pc) (b : UInt8) : Pc:=⟨p.m0,p.m1 + 1,p.v0,stepR p.v1 b,p.ok && (b != 48 || decide (0 < p.m1))⟩
def Pc.other (p : Pc) : Pc:={ p with ok:=false }
def Pc.step (p : Pc) (b : UInt8) : Pc:=if isLet b then p.letter b else if isDig b then p.digit b else p.other
def readS (l : List UInt8) : Pc:=l.foldl Pc.step .start
theorem Pc.step_bad {p : Pc} (h : p.ok = false) (b : UInt8) : (p.step b).ok = false:=by
 unfold Pc.step; split
 ·simp [Pc.letter,h]
 ·split <;> simp [Pc.digit,Pc.other,h]
theorem fold_bad (l : List UInt8) : ∀ p : Pc,p.ok = false → (l.foldl Pc.step p).ok = false:=by
 induction l with
 | nil => intro p h; exact h
 | cons b l ih => intro p h; exact ih _ (Pc.step_bad h b)
theorem fold_letters (l : List UInt8) : ∀ p : Pc,p.m1 = 0 → (∀ b ∈ l,isLet b = true) → l.foldl Pc.step p = ⟨p.m0 + l.length,0,l.foldl stepC p.v0,p.v1,p.ok⟩:=by
 induction l with
 | nil => rintro ⟨_,_,_,_,_⟩ h _; simp at h; subst h; rfl
 | cons b l ih =>
  intro p h hl
  have hb : isLet b = true:=hl b (by simp)
  have e : p.step b = p.letter b:=by unfold Pc.step; rw [if_pos hb]
  rw [List.foldl_cons,e,ih _ (by simp [Pc.letter,h]) (fun x hx => hl x (by simp [hx]))]
  simp [Pc.letter,h]; omega
theorem let_not_dig {b : UInt8} (h : isDig b = true) : isLet b = false:=by
 simp only [isDig,decide_eq_true_eq] at h
 unfold isLet letV
 rw [if_neg (by omega),if_neg (by omega)]; rfl
theorem fold_digits (l : List UInt8) : ∀ p : Pc,0 < p.m1 → (l.all isDig = true → l.foldl Pc.step p = ⟨p.m0,p.m1 + l.length,p.v0,l.foldl stepR p.v1,p.ok⟩) ∧ (l.all isDig = false → (l.foldl Pc.step p).ok = false):=by
 induction l with
 | nil => rintro ⟨_,_,_,_,_⟩ _; simp
 | cons b l ih =>
  intro p h
  by_cases hb : isDig b = true
  ·have e : p.step b = p.digit b:=by unfold Pc.step; rw [if_neg (by simp [let_not_dig hb]),if_pos hb]
   have i:=ih (p.digit b) (by simp [Pc.digit])
   simp only [List.all_cons,hb,Bool.true_and,List.foldl_cons,e]
   refine ⟨fun h1 => ?_,i.2⟩
   rw [i.1 h1]
   simp [Pc.digit,h]; omega
  ·simp only [List.all_cons,Bool.not_eq_true] at hb ⊢
   rw [hb]
   refine ⟨fun h1 => by simp at h1,fun _ => ?_⟩
   rw [List.foldl_cons]
   apply fold_bad
   unfold Pc.step
   split
   ·simp [Pc.letter]; omega
   ·rw [if_neg (by simp [hb])]; rfl
theorem stepC_le (n : Nat) (b : UInt8) : stepC n b ≤ 1025:=Nat.min_le_right _ _
theorem colOf_le (l : List UInt8) : colOf l ≤ 1025:=by
 unfold colOf
 suffices ∀ n,n ≤ 1025 → l.foldl stepC n ≤ 1025 from this 0 (by omega)
 induction l with
 | nil => intro n h; exact h
 | cons b l ih => intro n _; exact ih _ (stepC_le _ _)
theorem rowOf_le (l : List UInt8) : rowOf l ≤ 1025:=by
 unfold rowOf
 suffices ∀ n,n ≤ 1025 → l.foldl stepR n ≤ 1025 from this 0 (by omega)
 induction l with
 | nil => intro n h; exact h
 | cons b l ih => intro n _; exact ih _ (Nat.min_le_right _ _)
theorem colOf_snoc (l : List UInt8) (b : UInt8) : colOf (l ++ [b]) = min (26 * colOf l + letV b) 1025:=by simp [colOf,stepC]
theorem rowOf_snoc (l : List UInt8) (b : UInt8) : rowOf (l ++ [b]) = min (10 * rowOf l + (b.toNat - 48)) 1025:=by simp [rowOf,stepR]
theorem colOf_pos (l : List UInt8) (h : l ≠ []) (hl : ∀ b ∈ l,isLet b = true) : 1 ≤ colOf l:=by
 rcases List.eq_nil_or_concat l with rfl | ⟨m,b,rfl⟩
 ·exact absurd rfl h
 ·rw [List.concat_eq_append,colOf_snoc]
  have : letV b ≠ 0:=by
   have:=hl b (by simp)
   simpa [isLet] using this
  omega
theorem rowOf_pos (l : List UInt8) : ∀ b,isDig b = true → b ≠ 48 → 1 ≤ rowOf (b :: l):=by
 intro b hb h0
 simp only [isDig,decide_eq_true_eq] at hb
 have h1 : 1 ≤ stepR 0 b:=by
  have : b.toNat ≠ 48:=fun e => h0 (by rw [← UInt8.toNat_inj]; exact e)
  unfold stepR; omega
 have key : ∀ (l : List UInt8) n,1 ≤ n → 1 ≤ l.foldl stepR n:=by
  intro l
  induction l with
  | nil => intro n h; exact h
  | cons c l ih => intro n h; exact ih _ (by unfold stepR; omega)
 exact key l _ h1
theorem readS_eq (l : List UInt8) : readS l = (l.dropWhile isLet).foldl Pc.step ⟨(l.takeWhile isLet).length,0,colOf (l.takeWhile isLet),0,true⟩:=by
 have h : l.foldl Pc.step .start = (l.takeWhile isLet ++ l.dropWhile isLet).foldl Pc.step .start:=by rw [List.takeWhile_append_dropWhile]
 unfold readS
 rw [h,List.foldl_append,fold_letters _ _ rfl (fun b hb => (List.all_eq_true.1 (List.all_takeWhile (l:=l))) b hb)]
 simp [Pc.start,colOf]
theorem drop_head (l : List UInt8) (b : UInt8) (m : List UInt8) (h : l.dropWhile isLet = b :: m) : isLet b = false:=by
 have:=List.head?_dropWhile_not isLet l
 rw [h] at this
 simpa using this
def parseOf (p : Pc) : Int × Int × Int :=
 if p.ok = false ∨ p.m0 = 0 ∨ p.m1 = 0 then (0,0,4) else if validN p.v0 p.v1 = true then (p.v0,p.v1,0) else (0,0,3)
theorem parse_read (l : List UInt8) : parseOf (readS l) = parseS l:=by
 rw [readS_eq]
 unfold parseS
 have ha : ∀ b ∈ l.takeWhile isLet,isLet b = true:=fun b hb => (List.all_eq_true.1 (List.all_takeWhile (l:=l))) b hb
 have hd:=drop_head l
 generalize l.takeWhile isLet = a at *
 generalize l.dropWhile isLet = d at *
 simp only []
 match d,hd with
 | [],_ => simp [parseOf]
 | b :: m,hd =>
  have hb:=hd b m rfl
  rw [List.foldl_cons]
  by_cases h1 : isDig b = true
  ·have e : Pc.step ⟨a.length,0,colOf a,0,true⟩ b = ⟨a.length,1,colOf a,stepR 0 b,b != 48⟩:=by
    unfold Pc.step; rw [if_neg (by simp [hb]),if_pos h1]; simp [Pc.digit]
   rw [e]
   have i:=fold_digits m ⟨a.length,1,colOf a,stepR 0 b,b != 48⟩ (by simp)
   by_cases h2 : m.all isDig = true
   ·rw [i.1 h2]
    have er : List.foldl stepR (stepR 0 b) m = rowOf (b :: m):=rfl
    simp only [er]
    by_cases h3 : b = 48
    ·subst h3; simp [parseOf]
    ·by_cases h4 : a = []
     ·subst h4; simp [parseOf]
     ·have hc:=colOf_pos a h4 ha
      have hr:=rowOf_pos m b h1 h3
      have hall : (b :: m).all isDig = true:=by simp [h1]; simpa using h2
      rw [if_neg (by simp only [h4,List.head?_cons,hall]; simp [h3])]
      unfold parseOf
      rw [if_neg (by simp [h3,h4])]
      by_cases h5 : 1024 < colOf a ∨ 1024 < rowOf (b :: m)
      ·rw [if_pos h5,if_neg (by simp only [validN,decide_eq_true_eq]; omega)]
      ·rw [if_neg h5,if_pos (by simp only [validN,decide_eq_true_eq]; omega)]
   ·rw [Bool.not_eq_true] at h2
    have:=i.2 h2
    unfold parseOf
    rw [if_pos (.inl this),if_pos]
    right; right; right
    simp [h1]; simpa using h2
  ·rw [Bool.not_eq_true] at h1
   have e : (Pc.step ⟨a.length,0,colOf a,0,true⟩ b).ok = false:=by
    unfold Pc.step; rw [if_neg (by simp [hb]),if_neg (by simp [h1])]; rfl
   have:=fold_bad m _ e
   unfold parseOf
   rw [if_pos (.inl this),if_pos]
   right; right; right
   simp [h1]
def lettersS (fuel : Nat) (n : Nat) : List UInt8 :=
 match fuel with
 | 0 => []
 | fuel + 1 => if n = 0 then [] else lettersS fuel ((n - 1) / 26) ++ [UInt8.ofNat (65 + (n - 1) % 26)]
def lettersN (n : Nat) : List UInt8:=lettersS n n
def upB (b : UInt8) : UInt8:=if 97 ≤ b.toNat ∧ b.toNat ≤ 122 then UInt8.ofNat (b.toNat - 32) else b
theorem lettersS_eq : ∀ (n fuel : Nat),n ≤ fuel → lettersS fuel n = lettersS n n:=by
 intro n
 induction n using Nat.strongRecOn with
 | _ n ih =>
  intro fuel h
  match fuel,n with
  | f,0 => cases f <;> rfl
  | 0,n + 1 => omega
  | f + 1,n + 1 =>
   simp only [lettersS,Nat.add_sub_cancel]
   rw [if_neg (by omega),if_neg (by omega),ih (n / 26) (by omega) f (by omega),ih (n / 26) (by omega) n (by omega)]
theorem lettersN_pos (n : Nat) (h : 0 < n) : lettersN n = lettersN ((n - 1) / 26) ++ [UInt8.ofNat (65 + (n - 1) % 26)]:=by
 unfold lettersN
 match n,h with
 | n + 1,_ =>
  rw [lettersS,if_neg (by omega),Nat.add_sub_cancel,lettersS_eq (n / 26) n (by omega)]
theorem upB_let (b : UInt8) (h : isLet b = true) : upB b = UInt8.ofNat (65 + (letV b - 1)) ∧ 1 ≤ letV b ∧ letV b ≤ 26:=by
 have h' : letV b ≠ 0:=by simpa [isLet] using h
 unfold letV at *
 split at h'
 ·rename_i h1
  rw [if_pos h1]
  refine ⟨?_,by omega,by omega⟩
  unfold upB; rw [if_neg (by omega),← UInt8.toNat_inj,UInt8.toNat_ofNat']; omega
 ·rename_i h1
  split at h'
  ·rename_i h2
   rw [if_neg h1,if_pos h2]
   refine ⟨?_,by omega,by omega⟩
   unfold upB; rw [if_pos h2]; congr 1; omega
  ·exact absurd rfl h'
theorem letters_col (a : List UInt8) (ha : ∀ b ∈ a,isLet b = true) (h : colOf a ≤ 1024) : lettersN (colOf a) = a.map upB:=by
 induction hn : a.length generalizing a with
 | zero => rw [List.length_eq_zero_iff] at hn; subst hn; rfl
 | succ n ih =>
  rcases List.eq_nil_or_concat a with rfl | ⟨m,b,rfl⟩
  ·simp at hn
  ·rw [List.concat_eq_append] at *
   rw [colOf_snoc] at h ⊢
   obtain ⟨hu,h1,h2⟩:=upB_let b (ha b (by simp))
   have he : min (26 * colOf m + letV b) 1025 = 26 * colOf m + letV b:=by omega
   rw [he] at h ⊢
   rw [lettersN_pos _ (by omega),show (26 * colOf m + letV b - 1) / 26 = colOf m from by omega,show (26 * colOf m + letV b - 1) % 26 = letV b - 1 from by omega,ih m (fun b hb => ha b (by simp [hb])) (by omega) (by simpa using hn),List.map_append,← hu]
   rfl
/-! ### digits -/
open Go.Lib (decDigits)
theorem dec_small {n : Nat} (h : n < 10) : decDigits n = [UInt8.ofNat (48 + n)]:=by rw [decDigits,dif_pos h]
theorem dec_big {n : Nat} (h : ¬ n < 10) : decDigits n = decDigits (n / 10) ++ [UInt8.ofNat (48 + n % 10)]:=by rw [decDigits,dif_neg h]
theorem dec_row (d : List UInt8) (hd : d.all isDig = true) (hne : d ≠ []) (h0 : d.head? ≠ some 48) (h : rowOf d ≤ 1024) : decDigits (rowOf d) = d:=by
 induction hn : d.length generalizing d with
 | zero => rw [List.length_eq_zero_iff] at hn; exact absurd hn hne
 | succ n ih =>
  rcases List.eq_nil_or_concat d with rfl | ⟨m,b,rfl⟩
  ·simp at hn
  ·rw [List.concat_eq_append] at *
   rw [List.all_append,Bool.and_eq_true] at hd
   have hb : isDig b = true:=by simpa using hd.2
   have hb':=hb
   simp only [isDig,decide_eq_true_eq] at hb'
   rw [rowOf_snoc] at h ⊢
   have he : min (10 * rowOf m + (b.toNat - 48)) 1025 = 10 * rowOf m + (b.toNat - 48):=by omega
   rw [he] at h ⊢
   have hbb : UInt8.ofNat (48 + (b.toNat - 48)) = b:=by rw [← UInt8.toNat_inj,UInt8.toNat_ofNat']; omega
   match m,hd.1,h0,ih m with
   | [],_,_,_ =>
    have : rowOf [] = 0:=rfl
    rw [this,Nat.mul_zero,Nat.zero_add,dec_small (by omega),hbb]; rfl
   | c :: m,hm,h0,ih =>
    have hc : isDig c = true:=by simp at hm; exact hm.1
    have h1:=rowOf_pos m c hc (fun e => h0 (by simp [e]))
    rw [dec_big (by omega),show (10 * rowOf (c :: m) + (b.toNat - 48)) / 10 = rowOf (c :: m) from by omega,show (10 * rowOf (c :: m) + (b.toNat - 48)) % 10 = b.toNat - 48 from by omega,hbb,
     ih hm (by simp) (by simpa using h0) (by omega) (by simpa using hn)]
def formatS (c r : Int) : List UInt8 × Int:=if validN c r then (lettersN c.toNat ++ decDigits r.toNat,0) else ([],3)
theorem parse_ok (l : List UInt8) (h : (parseS l).2.2 = 0) : validN (parseS l).1 (parseS l).2.1 = true ∧ (formatS (parseS l).1 (parseS l).2.1).1 = l.map upB:=by
 unfold parseS at h ⊢
 have ha : ∀ b ∈ l.takeWhile isLet,isLet b = true:=fun b hb => (List.all_eq_true.1 (List.all_takeWhile (l:=l))) b hb
 have hl : l = l.takeWhile isLet ++ l.dropWhile isLet:=(List.takeWhile_append_dropWhile ..).symm
 generalize l.takeWhile isLet = a at *
 generalize l.dropWhile isLet = d at *
 subst hl
 simp only [] at h ⊢
 split at h
 ·simp at h
 ·rename_i h1
  rw [if_neg h1]
  split at h
  ·simp at h
  ·rename_i h2
   rw [if_neg h2]
   simp only [not_or] at h1 h2
   have hd : d.all isDig = true:=by simpa using h1.2.2.2
   have hc:=colOf_pos a h1.1 ha
   have hr : 1 ≤ rowOf d:=by
    match d,h1,hd with
    | [],h1,_ => exact absurd rfl h1.2.1
    | b :: m,h1,hd =>
     have hb : isDig b = true:=by simp at hd; exact hd.1
     exact rowOf_pos m b hb (fun e => h1.2.2.1 (by simp [e]))
   have hv : validN (colOf a) (rowOf d) = true:=by simp only [validN,decide_eq_true_eq]; omega
   refine ⟨hv,?_⟩
   unfold formatS
   rw [if_pos hv]
   simp only [Int.toNat_natCast]
   rw [letters_col a ha (by omega),dec_row d hd h1.2.1 h1.2.2.1 (by omega),List.map_append]
   congr 1
   have : ∀ b ∈ d,upB b = b:=by
    intro b hb
    have : isDig b = true:=(List.all_eq_true.1 hd) b hb
    simp only [isDig,decide_eq_true_eq] at this
    unfold upB; rw [if_neg (by omega)]
   exact (List.map_id' d ▸ (List.map_congr_left this)).symm
end Go.Proofs.YtlngjiibbcgkmaaGreatDoor
namespace Go.Proofs.YtlngjiibbcgkmaaGreatDoor
structure R4 where
 c1 : Int
 r1 : Int
 c2 : Int
 r2 : Int
deriving DecidableEq
def R4.zero : R4:=⟨0,0,0,0⟩
def checkB (r : R4) : Bool:=validN r.c1 r.r1 && validN r.c2 r.r2 && decide (r.c1 ≤ r.c2) && decide (r.r1 ≤ r.r2)
def checkE (r : R4) : Int:=if checkB r = true then 0 else 3
theorem checkB_iff (r : R4) : checkB r = true ↔ 1 ≤ r.c1 ∧ r.c1 ≤ r.c2 ∧ r.c2 ≤ 1024 ∧ 1 ≤ r.r1 ∧ r.r1 ≤ r.r2 ∧ r.r2 ≤ 1024:=by
 simp only [checkB,validN,Bool.and_eq_true,decide_eq_true_eq]; omega
end Go.Proofs.YtlngjiibbcgkmaaGreatDoor
