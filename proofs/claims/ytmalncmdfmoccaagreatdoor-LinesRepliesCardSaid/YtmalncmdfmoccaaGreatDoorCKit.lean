/- Plain helpers of this claim: what a slice of numbers or of structs reads as, and how it is kept. No program stands here but by its name. -/
import Derived.Test.YtmalncmdfmoccaaGreatDoorRows
import Derived.WalkKit
import Derived.WalkSpells
import Derived.WalkLawsBesides
import Derived.Lib.Hide
import Derived.Deep.Slices
import Derived.Deep.Fields
import Derived.ChangeSame
import Derived.Lib.LaidTab
import Derived.Laws.OwnMore
import Derived.Deep.Draws
import Derived.Laws.Rows
import Derived.Deep.OwnRows
namespace Go.Proofs.YtmalncmdfmoccaaGreatDoor
open Go.RowKit
theorem block_add (a : Addr) (n : Nat) : (a.add n).block = a.block:=by unfold Addr.add; split <;> rfl
theorem add_add (a : Addr) (i j : Nat) : (a.add i).add j = a.add (i + j):=by
  unfold Addr.add
  by_cases hi : i = 0 <;> by_cases hj : j = 0 <;> simp [hi,hj,Nat.add_assoc]
theorem below_step {w W W' : World} (h : Below w.heap.size w W) (k : Below W.heap.size W W') : Below w.heap.size w W':=h.trans (k.mono h.size)
theorem cell_step {W W' : World} {p : Addr} {v : Value} (k : Below W.heap.size W W') (h : W.cell? p = some v) : W'.cell? p = some v:=(k.cell (World.block_lt_of_cell? W p h)).trans h
def IsRows (s : Nat) (w : World) (B : Nat) (a : Option Addr) (n : Nat) (g : Nat → Nat → Value) : Prop :=
  0 < n → ∃ ad,a = some ad ∧ ad.block < B ∧ ∀ i j,i < n → j < s → w.cell? (ad.add (i * s + j)) = some (g i j)
def IsInts (k : IntKind) (w : World) (B : Nat) (a : Option Addr) (n : Nat) (f : Nat → Int) : Prop :=
  0 < n → ∃ ad,a = some ad ∧ ad.block < B ∧ ∀ i,i < n → w.cell? (ad.add i) = some (.int k (f i))
def IsNums (k : IntKind) (w : World) (B : Nat) (a : Option Addr) (n : Nat) (f : Nat → Nat) : Prop :=
  0 < n → ∃ ad,a = some ad ∧ ad.block < B ∧ ∀ i,i < n → w.cell? (ad.add i) = some (.int k (f i : Nat))
section
variable {w w' : World} {B B' n s : Nat} {a : Option Addr} {k : IntKind}
theorem IsNums.below {f : Nat → Nat} (h : IsNums k w B a n f) (hb : Below B w w') (hB : B ≤ B') : IsNums k w' B' a n f:=by
  intro hn
  obtain ⟨ad,e,h1,h2⟩:=h hn
  exact ⟨ad,e,by omega,fun i hi => (hb.cell (by rw [block_add]; exact h1)).trans (h2 i hi)⟩
theorem IsInts.below {f : Nat → Int} (h : IsInts k w B a n f) (hb : Below B w w') (hB : B ≤ B') : IsInts k w' B' a n f:=by
  intro hn
  obtain ⟨ad,e,h1,h2⟩:=h hn
  exact ⟨ad,e,by omega,fun i hi => (hb.cell (by rw [block_add]; exact h1)).trans (h2 i hi)⟩
theorem IsRows.below {g : Nat → Nat → Value} (h : IsRows s w B a n g) (hb : Below B w w') (hB : B ≤ B') : IsRows s w' B' a n g:=by
  intro hn
  obtain ⟨ad,e,h1,h2⟩:=h hn
  exact ⟨ad,e,by omega,fun i j hi hj => (hb.cell (by rw [block_add]; exact h1)).trans (h2 i j hi hj)⟩
theorem IsInts.nums {f : Nat → Int} (h : IsInts k w B a n f) (hf : ∀ i,0 ≤ f i) : IsNums k w B a n (fun i => (f i).toNat):=by
  intro hn
  obtain ⟨ad,e,h1,h2⟩:=h hn
  exact ⟨ad,e,h1,fun i hi => by rw [h2 i hi,Int.toNat_of_nonneg (hf i)]⟩
end
theorem below_drewN {B : Nat} {a w : World} (h : Below B a w) (n : Nat) : Below B a (w.drewN n):=⟨h.os,h.tape,h.output,h.size,h.block⟩
theorem only_of_below {a w : World} (h : Below a.heap.size a w) (row : Option Nat) : a.grownBy w row:=⟨h.os,h.tape,h.output,h.size,fun i hi _ => h.block i hi⟩
def Blk (w : World) (g : Nat) (t : TypeId) (cs : Array Value) : Prop:=w.heap[g]? = some (.cells cs t (0,0))
section
variable {w w' : World} {g : Nat} {t : TypeId} {cs : Array Value}
theorem Blk.lt (h : Blk w g t cs) : g < w.heap.size:=by
  rcases Nat.lt_or_ge g w.heap.size with hlt | hge
  · exact hlt
  · unfold Blk at h; rw [Array.getElem?_eq_none hge] at h; cases h
theorem Blk.cell (h : Blk w g t cs) (i : Nat) : w.cell? ⟨g,i,none⟩ = cs[i]?:=cell_of_row w g i cs t (0,0) h
theorem Blk.frozen (h : Blk w g t cs) (i : Nat) : w.frozen? ⟨g,i,none⟩ = false:=by
  unfold Blk at h
  simp [World.frozen?,h]
theorem Blk.new (w : World) (t : TypeId) (cs : Array Value) : Blk (w.alloc (.cells cs t)) w.heap.size t cs:=heap_alloc_new w _
theorem Blk.drew (h : Blk w g t cs) : Blk w.drew g t cs:=h
theorem Blk.drewN (h : Blk w g t cs) (n : Nat) : Blk (w.drewN n) g t cs:=h
theorem Blk.alloc (h : Blk w g t cs) (o : Obj) : Blk (w.alloc o) g t cs:=(Below.heap_alloc w o g h.lt).trans h
theorem Blk.set_ (h : Blk w g t cs) (i : Nat) (u : Value) : Blk (w.setCell ⟨g,i,none⟩ u) g t (cs.setIfInBounds i u):=by
  unfold Blk at h ⊢
  simp [World.setCell,Array.getElem?_modify,h]
theorem Blk.far (h : Blk w g t cs) {p : Addr} (hp : g ≠ p.block) (u : Value) : Blk (w.setCell p u) g t cs:=(Below.heap_setCell w p u g hp).trans h
theorem Blk.below {B : Nat} (h : Blk w g t cs) (hb : Below B w w') (hg : g < B) : Blk w' g t cs:=(hb.block g hg).trans h
theorem Blk.grown {row : Option Nat} (h : Blk w g t cs) (hb : w.grownBy w' row) (hg : some g ≠ row) : Blk w' g t cs:=(hb.block g h.lt hg).trans h
end
section
open Go.ChangeShapes Go.WideShapes Go.Deep
variable {H : Type} {enc : TypeId × Value → H} {P : Program} {w : World} {base : Nat} {spare : Nat → Bool} {held : Bool}
end
end Go.Proofs.YtmalncmdfmoccaaGreatDoor
