/- The contract of the lexer's word. The contract of lex.Tokens. -/
import Derived.Test.YtmalncmdfmoccaaGreatDoorBRectF
import Derived.Test.YtmalncmdfmoccaaGreatDoorBMem
import Derived.Deep.DeepCutAuto
import Derived.Deep.LoopGhost
import Derived.WalkMore
namespace Go.Proofs.YtmalncmdfmoccaaGreatDoor
section
open Go.RowKit
theorem rect_One (c r : Int) (w : World) :
    Calls Tryz.prog 60 #[.agg #[.int .i64 c,.int .i64 r]] w fun e w' => e = .returned (.agg #[.int .i64 c,.int .i64 r,.int .i64 c,.int .i64 r]) ∧ Below w.heap.size w w':=by
  go_enter Tryz.func60,Tryz.ntmps60
  go_wp2
  refine bodyPost_ret (v:=.agg #[.int .i64 c,.int .i64 r,.int .i64 c,.int .i64 r]) (by simp [results,Tryz.results60,go_sem]) rfl ⟨rfl,?_⟩
  first
    | exact ((Below.refl _ _).alloc (Nat.le_refl _) _)
    | exact (((Below.refl _ _).alloc (Nat.le_refl _) _).alloc (by simp) _)
    | exact ((((((((Below.refl _ _).alloc (Nat.le_refl _) _).alloc (by simp) _)).setCell (by simp) _).setCell (by simp) _).setCell (by simp) _).setCell (by simp) _)
def wordR (l : List UInt8) (i : Nat) : Option (Tk × Nat):=if l.head?.any isLet then wordS l i else none
section
variable {l u d : List UInt8} {i n : Nat} {a : Int × Int × Int}
structure Wd (l u d : List UInt8) (n : Nat) (a : Int × Int × Int) : Prop where
  hd : l.head?.any isLet = true
  hu : (l.takeWhile isWrd).map upB = u
  hdd : l.dropWhile isWrd = d
  hn : (l.takeWhile isWrd).length = n
  ha : parseS u = a
theorem Wd.name (h : Wd l u d n a) (h1 : d.head? = some 40) : wordR l i = some (⟨7,0,u,R4.zero,i⟩,n):=by
  unfold wordR wordS
  rw [if_pos h.hd]
  simp only [h.hu,h.hdd,h.hn]
  rw [if_pos h1]
theorem Wd.no (h : Wd l u d n a) (h1 : d.head? ≠ some 40) (h2 : u ≠ trueB) (h3 : u = falseB) : wordR l i = some (⟨3,0,[],R4.zero,i⟩,n):=by
  unfold wordR wordS
  rw [if_pos h.hd]
  simp only [h.hu,h.hdd,h.hn]
  rw [if_neg h1,if_neg h2,if_pos h3]
theorem Wd.bad (h : Wd l u d n a) (h1 : d.head? ≠ some 40) (h2 : u ≠ trueB) (h3 : u ≠ falseB) (h4 : a.2.2 ≠ 0) : wordR l i = none:=by
  unfold wordR wordS
  rw [if_pos h.hd]
  simp only [h.hu,h.hdd,h.hn,h.ha]
  rw [if_neg h1,if_neg h2,if_neg h3,if_pos h4]
theorem Wd.one (h : Wd l u d n a) (h1 : d.head? ≠ some 40) (h2 : u ≠ trueB) (h3 : u ≠ falseB) (h4 : a.2.2 = 0) (h5 : secondS d = none) : wordR l i = some (⟨5,0,[],⟨a.1,a.2.1,a.1,a.2.1⟩,i⟩,n):=by
  unfold wordR wordS
  rw [if_pos h.hd]
  simp only [h.hu,h.hdd,h.hn,h.ha,h5]
  rw [if_neg h1,if_neg h2,if_neg h3,if_neg (by rw [h4]; simp)]
  unfold rectS
  simp
theorem Wd.two (h : Wd l u d n a) {c r : Int} {m : Nat} (h1 : d.head? ≠ some 40) (h2 : u ≠ trueB) (h3 : u ≠ falseB) (h4 : a.2.2 = 0) (h5 : secondS d = some (c,r,m)) :
    wordR l i = some (⟨if a.1 = c ∧ a.2.1 = r then 5 else 6,0,[],rectS (a.1,a.2.1) (c,r),i⟩,n + 1 + m):=by
  unfold wordR wordS
  rw [if_pos h.hd]
  simp only [h.hu,h.hdd,h.hn,h.ha,h5]
  rw [if_neg h1,if_neg h2,if_neg h3,if_neg (by rw [h4]; simp)]
end
end
section
open Go.RowKit
def tkRow (t : Tk) : List Value:=[.int .u8 t.kind,.int .i64 t.num,.string ⟨t.text.toArray⟩,.int .i64 t.r.c1,.int .i64 t.r.r1,.int .i64 t.r.c2,.int .i64 t.r.r2,.int .i64 (t.at_ : Nat)]
def Tks (S : List UInt8) (k : Nat) (l : List Tk) : Prop:=∃ f,S.length - k ≤ f ∧ toksF S.length 0 S = (toksF f k (S.drop k)).map (l ++ ·)
theorem Tks.start (S : List UInt8) : Tks S 0 []:=⟨S.length,by omega,by
  rw [List.drop_zero]
  cases toksF S.length 0 S with
  | error e => rfl
  | ok x => rfl⟩
theorem Tks.fuel {S : List UInt8} {k : Nat} {l : List Tk} (h : Tks S k l) (hk : k < S.length) : ∃ f,S.length - (k + 1) ≤ f ∧ toksF S.length 0 S = (toksF (f + 1) k (S[k] :: S.drop (k + 1))).map (l ++ ·):=by
  obtain ⟨f,h1,h2⟩:=h
  obtain ⟨g,rfl⟩ : ∃ g,f = g + 1:=⟨f - 1,by omega⟩
  exact ⟨g,by omega,by rw [h2,List.drop_eq_getElem_cons hk]⟩
theorem Tks.blank {S : List UInt8} {k : Nat} {l : List Tk} (h : Tks S k l) (hk : k < S.length) (h1 : S[k] = 32) : Tks S (k + 1) l:=by
  obtain ⟨f,h2,h3⟩:=h.fuel hk
  refine ⟨f,h2,?_⟩
  rw [h3,toksF,if_pos h1]
theorem Tks.tok {S : List UInt8} {k n : Nat} {l : List Tk} {t : Tk} (h : Tks S k l) (hk : k < S.length) (h1 : S[k] ≠ 32) (ht : tokS k (S.drop k) = some (t,n)) : Tks S (k + n) (l ++ [t]):=by
  obtain ⟨f,h2,h3⟩:=h.fuel hk
  have hn:=(tok_le ht).1
  refine ⟨f,by omega,?_⟩
  rw [← List.drop_eq_getElem_cons hk] at h3
  rw [h3]
  have hd:=List.drop_eq_getElem_cons hk
  rw [hd,toksF,if_neg h1,← hd,ht]
  simp only [List.drop_drop]
  cases toksF f (k + n) (S.drop (k + n)) with
  | error e => rfl
  | ok x => simp [Except.map]
theorem Tks.bad {S : List UInt8} {k : Nat} {l : List Tk} (h : Tks S k l) (hk : k < S.length) (h1 : S[k] ≠ 32) (ht : tokS k (S.drop k) = none) : toksF S.length 0 S = .error k:=by
  obtain ⟨f,h2,h3⟩:=h.fuel hk
  rw [h3]
  have hd:=List.drop_eq_getElem_cons hk
  rw [toksF,if_neg h1,← hd,ht]
  rfl
theorem Tks.done {S : List UInt8} {l : List Tk} (h : Tks S S.length l) : toksF S.length 0 S = .ok l:=by
  obtain ⟨f,h2,h3⟩:=h
  rw [h3,List.drop_eq_nil_of_le (Nat.le_refl _)]
  cases f with
  | zero => simp [toksF,Except.map]
  | succ f => simp [toksF,Except.map]
end
end Go.Proofs.YtmalncmdfmoccaaGreatDoor
