/- Plain helpers of this claim: what a slice of numbers or of structs reads as, and how it is kept. No program stands here but by its name. The contract of addr.Valid. -/
import Derived.Test.YtjbimcdofenmdaaGreatDoorRows
import Derived.WalkKit
import Derived.WalkSpells
import Derived.WalkLawsBesides
import Derived.Lib.Hide
import Derived.Deep.Slices
import Derived.Deep.Fields
import Derived.ChangeSame
import Derived.Lib.LaidTab
import Derived.Laws.OwnMore
import Derived.Deep.Draws
import Derived.Laws.Rows
import Derived.Deep.OwnRows
namespace Go.Proofs.YtjbimcdofenmdaaGreatDoor
open Go.RowKit
theorem block_add (a : Addr) (n : Nat) : (a.add n).block = a.block:=by unfold Addr.add; split <;> rfl
theorem add_add (a : Addr) (i j : Nat) : (a.add i).add j = a.add (i + j):=by
  unfold Addr.add
  by_cases hi : i = 0 <;> by_cases hj : j = 0 <;> simp [hi,hj,Nat.add_assoc]
theorem below_step {w W W' : World} (h : Below w.heap.size w W) (k : Below W.heap.size W W') : Below w.heap.size w W':=h.trans (k.mono h.size)
theorem cell_step {W W' : World} {p : Addr} {v : Value} (k : Below W.heap.size W W') (h : W.cell? p = some v) : W'.cell? p = some v:=(k.cell (World.block_lt_of_cell? W p h)).trans h
theorem beq0 (x : Nat) : ((x : Int) == 0) = (x == 0):=by rw [Bool.eq_iff_iff]; simp
def IsRows (s : Nat) (w : World) (B : Nat) (a : Option Addr) (n : Nat) (g : Nat → Nat → Value) : Prop :=
  0 < n → ∃ ad,a = some ad ∧ ad.block < B ∧ ∀ i j,i < n → j < s → w.cell? (ad.add (i * s + j)) = some (g i j)
def IsInts (k : IntKind) (w : World) (B : Nat) (a : Option Addr) (n : Nat) (f : Nat → Int) : Prop :=
  0 < n → ∃ ad,a = some ad ∧ ad.block < B ∧ ∀ i,i < n → w.cell? (ad.add i) = some (.int k (f i))
def IsNums (k : IntKind) (w : World) (B : Nat) (a : Option Addr) (n : Nat) (f : Nat → Nat) : Prop :=
  0 < n → ∃ ad,a = some ad ∧ ad.block < B ∧ ∀ i,i < n → w.cell? (ad.add i) = some (.int k (f i : Nat))
section
variable {w w' : World} {B B' n s : Nat} {a : Option Addr} {k : IntKind}
theorem IsNums.below {f : Nat → Nat} (h : IsNums k w B a n f) (hb : Below B w w') (hB : B ≤ B') : IsNums k w' B' a n f:=by
  intro hn
  obtain ⟨ad,e,h1,h2⟩:=h hn
  exact ⟨ad,e,by omega,fun i hi => (hb.cell (by rw [block_add]; exact h1)).trans (h2 i hi)⟩
theorem IsInts.below {f : Nat → Int} (h : IsInts k w B a n f) (hb : Below B w w') (hB : B ≤ B') : IsInts k w' B' a n f:=by
  intro hn
  obtain ⟨ad,e,h1,h2⟩:=h hn
  exact ⟨ad,e,by omega,fun i hi => (hb.cell (by rw [block_add]; exact h1)).trans (h2 i hi)⟩
theorem IsRows.below {g : Nat → Nat → Value} (h : IsRows s w B a n g) (hb : Below B w w') (hB : B ≤ B') : IsRows s w' B' a n g:=by
  intro hn
  obtain ⟨ad,e,h1,h2⟩:=h hn
  exact ⟨ad,e,by omega,fun i j hi hj => (hb.cell (by rw [block_add]; exact h1)).trans (h2 i j hi hj)⟩
theorem IsInts.nums {f : Nat → Int} (h : IsInts k w B a n f) (hf : ∀ i,0 ≤ f i) : IsNums k w B a n (fun i => (f i).toNat):=by
  intro hn
  obtain ⟨ad,e,h1,h2⟩:=h hn
  exact ⟨ad,e,h1,fun i hi => by rw [h2 i hi,Int.toNat_of_nonneg (hf i)]⟩
end
theorem own_nums {k : IntKind} {w : World} {base : Nat} {e : TypeId} {v : Value} {n : Nat} {xs : List Value} {f : Nat → Nat} (h : w.ownsRow base e 1 v n xs) (hx : ∀ i,i < n → xs[i]? = some (.int k (f i : Nat))) :
    ∃ a c,v = .slice a n c ∧ IsNums k w w.heap.size a n f ∧ n ≤ maxLen:=by
  have hc:=@World.ownsRow.cells _ _ _ _ _ _ _ h
  have hlt:=h.lt
  rcases h.2 with ⟨rfl,rfl⟩ | ⟨g,cap,cur,rfl,_,_,hn,hm,_⟩
  · exact ⟨none,0,rfl,fun h => absurd h (by omega),Nat.zero_le _⟩
  · exact ⟨_,_,rfl,fun _ => ⟨_,rfl,(hlt g rfl).2,fun i hi => hc rfl i _ (hx i hi)⟩,by omega⟩
theorem own_ints {k : IntKind} {w : World} {base : Nat} {e : TypeId} {v : Value} {n : Nat} {xs : List Value} {f : Nat → Int} (h : w.ownsRow base e 1 v n xs) (hx : ∀ i,i < n → xs[i]? = some (.int k (f i))) :
    ∃ a c,v = .slice a n c ∧ IsInts k w w.heap.size a n f ∧ n ≤ maxLen:=by
  have hc:=@World.ownsRow.cells _ _ _ _ _ _ _ h
  have hlt:=h.lt
  rcases h.2 with ⟨rfl,rfl⟩ | ⟨g,cap,cur,rfl,_,_,hn,hm,_⟩
  · exact ⟨none,0,rfl,fun h => absurd h (by omega),Nat.zero_le _⟩
  · exact ⟨_,_,rfl,fun _ => ⟨_,rfl,(hlt g rfl).2,fun i hi => hc rfl i _ (hx i hi)⟩,by omega⟩
theorem below_drewN {B : Nat} {a w : World} (h : Below B a w) (n : Nat) : Below B a (w.drewN n):=⟨h.os,h.tape,h.output,h.size,h.block⟩
theorem rowIs_drewN {w : World} {b : Nat} {t : TypeId} {n : Nat} {f : Nat → Value} (h : w.rowIs b t n f) (k : Nat) : (w.drewN k).rowIs b t n f:=h
theorem grown_trans {a b c : World} (h : Grown a b) (k : Grown b c) : Grown a c :=
  ⟨World.keptBut_trans h.1 k.1,fun x => (k.2.1 x).trans (h.2.1 x),Nat.le_trans h.2.2 k.2.2⟩
theorem only_drewN {a w : World} {row : Option Nat} (h : a.grownBy w row) (n : Nat) : a.grownBy (w.drewN n) row:=⟨h.os,h.tape,h.output,h.size,h.block⟩
theorem only_drew {a w : World} {row : Option Nat} (h : a.grownBy w row) : a.grownBy w.drew row:=⟨h.os,h.tape,h.output,h.size,h.block⟩
theorem only_alloc {a w : World} {row : Option Nat} (h : a.grownBy w row) (o : Obj) : a.grownBy (w.alloc o) row :=
  ⟨h.os,h.tape,h.output,Nat.le_trans h.size (by simp),fun i hi hne => (Below.heap_alloc w o i (Nat.lt_of_lt_of_le hi h.size)).trans (h.block i hi hne)⟩
theorem only_setCell {a w : World} {g : Nat} (h : a.grownBy w (some g)) {p : Addr} (hp : p.block = g ∨ a.heap.size ≤ p.block) (u : Value) : a.grownBy (w.setCell p u) (some g) :=
  ⟨h.os,h.tape,h.output,by simpa [World.setCell] using h.size,fun i hi hne => (Below.heap_setCell w p u i (by
    rintro rfl
    rcases hp with hp | hp
    · exact hne (by rw [hp])
    · omega)).trans (h.block i hi hne)⟩
theorem only_of_below {a w : World} (h : Below a.heap.size a w) (row : Option Nat) : a.grownBy w row:=⟨h.os,h.tape,h.output,h.size,fun i hi _ => h.block i hi⟩
def Blk (w : World) (g : Nat) (t : TypeId) (cs : Array Value) : Prop:=w.heap[g]? = some (.cells cs t (0,0))
section
variable {w w' : World} {g : Nat} {t : TypeId} {cs : Array Value}
theorem Blk.lt (h : Blk w g t cs) : g < w.heap.size:=by
  rcases Nat.lt_or_ge g w.heap.size with hlt | hge
  · exact hlt
  · unfold Blk at h; rw [Array.getElem?_eq_none hge] at h; cases h
theorem Blk.cell (h : Blk w g t cs) (i : Nat) : w.cell? ⟨g,i,none⟩ = cs[i]?:=cell_of_row w g i cs t (0,0) h
theorem Blk.frozen (h : Blk w g t cs) (i : Nat) : w.frozen? ⟨g,i,none⟩ = false:=by
  unfold Blk at h
  simp [World.frozen?,h]
theorem Blk.new (w : World) (t : TypeId) (cs : Array Value) : Blk (w.alloc (.cells cs t)) w.heap.size t cs:=heap_alloc_new w _
theorem Blk.drew (h : Blk w g t cs) : Blk w.drew g t cs:=h
theorem Blk.drewN (h : Blk w g t cs) (n : Nat) : Blk (w.drewN n) g t cs:=h
theorem Blk.alloc (h : Blk w g t cs) (o : Obj) : Blk (w.alloc o) g t cs:=(Below.heap_alloc w o g h.lt).trans h
theorem Blk.set_ (h : Blk w g t cs) (i : Nat) (u : Value) : Blk (w.setCell ⟨g,i,none⟩ u) g t (cs.setIfInBounds i u):=by
  unfold Blk at h ⊢
  simp [World.setCell,Array.getElem?_modify,h]
theorem Blk.far (h : Blk w g t cs) {p : Addr} (hp : g ≠ p.block) (u : Value) : Blk (w.setCell p u) g t cs:=(Below.heap_setCell w p u g hp).trans h
theorem Blk.below {B : Nat} (h : Blk w g t cs) (hb : Below B w w') (hg : g < B) : Blk w' g t cs:=(hb.block g hg).trans h
theorem Blk.grown {row : Option Nat} (h : Blk w g t cs) (hb : w.grownBy w' row) (hg : some g ≠ row) : Blk w' g t cs:=(hb.block g h.lt hg).trans h
end
section
open Go.ChangeShapes Go.WideShapes Go.Deep
variable {H : Type} {enc : TypeId × Value → H} {P : Program} {w : World} {base : Nat} {spare : Nat → Bool} {held : Bool}
theorem open_slice_fields {t e : TypeId} {fs : Array Field} {fuel : Nat} {cs : List Value} {x : DataW H × List MemPlace} (ht : P.underlying t = some (.slice e)) (he : P.underlying e = some (.struct fs))
    (hone : oneCellFields P fs = true) (hC : P.cellsOf e = fs.size) (h : DataW.trod enc P w base spare held fuel t cs = some x) :
    (cs = [.slice none 0 0] ∧ x = (.nil,[])) ∨
    ∃ (a : Addr) (len cap m : Nat) (D : Nat → DataW H) (Pl : Nat → List MemPlace),cs = [.slice (some a) len cap] ∧ base ≤ a.block ∧ len ≤ cap ∧ cap ≤ maxLen ∧ m = (if spare a.block then cap else len) ∧
      x = (.slice ((List.range len).map D) ((List.range (m - len)).map fun j => D (len + j)),MemPlace.row a (m * fs.size) ++ (List.range m).flatMap Pl) ∧
      ∀ i,i < m → ∃ (ys : List (DataW H × List MemPlace)) (n : Nat),D i = .agg (ys.map (·.1)) ∧ Pl i = ys.flatMap (·.2) ∧ ys.length = fs.size ∧
        ∀ (j : Nat) (f : Field),fs[j]? = some f → ∃ (v : Value) (y : DataW H × List MemPlace),w.cell? (a.add (i * fs.size + j)) = some v ∧ ys[j]? = some y ∧ DataW.trod enc P w base spare held n f.type [v] = some y:=by
  rcases open_slice ht h with h0 | ⟨a,len,cap,m,n,D,Pl,hcs,hb,hl,hm,hmm,hx,hi⟩
  · exact .inl h0
  · refine .inr ⟨a,len,cap,m,D,Pl,hcs,hb,hl,hm,hmm,by rw [hC] at hx; exact hx,fun i him => ?_⟩
    obtain ⟨cs',hc,ht'⟩:=hi i him
    rw [hC] at hc
    obtain ⟨ys,n',hn',hy,hlen,hyl,hf⟩:=DataW.trod_struct he ht'
    obtain ⟨_,hcl,hat⟩:=World.cells?_some hc
    simp only [Prod.mk.injEq] at hy
    refine ⟨ys,n',hy.1,hy.2,hyl,fun j f hj => ?_⟩
    obtain ⟨ho,hk⟩:=hone_of hone j f hj
    have hjl : j < fs.size:=(Array.getElem?_eq_some_iff.1 hj).1
    have hcell:=hat j hjl
    have hv : cs'[j]? = some (cs'[j]'(by omega)):=List.getElem?_eq_getElem (by omega)
    have h1:=hf j f hj
    rw [ho,hk] at h1
    have hone' : (cs'.drop j).take 1 = [cs'[j]'(by omega)]:=by
      rw [List.drop_eq_getElem_cons (by omega)]
      rfl
    rw [hone'] at h1
    have hys : ys[j]? = some (ys[j]'(by omega)):=List.getElem?_eq_getElem (by omega)
    refine ⟨_,_,?_,hys,h1.trans hys⟩
    rw [← Go.Deep.add_add,hcell,hv]
end
end Go.Proofs.YtjbimcdofenmdaaGreatDoor
namespace Go.Proofs.YtjbimcdofenmdaaGreatDoor
open Go.RowKit
def validN (c r : Int) : Bool:=decide (1 ≤ c ∧ c ≤ 1024 ∧ 1 ≤ r ∧ r ≤ 1024)
theorem validN_cases (c r : Int) (P : Prop) (h1 : ¬ 1 ≤ c → P) (h2 : 1 ≤ c → ¬ c ≤ 1024 → P) (h3 : 1 ≤ c → c ≤ 1024 → ¬ 1 ≤ r → P) (h4 : 1 ≤ c → c ≤ 1024 → 1 ≤ r → ¬ r ≤ 1024 → P) (h5 : 1 ≤ c → c ≤ 1024 → 1 ≤ r → r ≤ 1024 → P) : P:=by
  by_cases a : 1 ≤ c
  · by_cases b : c ≤ 1024
    · by_cases d : 1 ≤ r
      · by_cases e : r ≤ 1024
        · exact h5 a b d e
        · exact h4 a b d e
      · exact h3 a b d
    · exact h2 a b
  · exact h1 a
theorem addr_Valid (c r : Int) (w : World) :
    Calls Tryz.prog 98 #[.agg #[.int .i64 c,.int .i64 r]] w fun e w' => e = .returned (.bool (validN c r)) ∧ Below w.heap.size w w':=by
  apply validN_cases c r <;> intros
  all_goals
    go_enter Tryz.func98,Tryz.ntmps98
    go_wp2
    go_ret
    exact ⟨by simp only [Array.getD_eq_getD_getElem?]; simp [validN]; try omega,(Below.refl _ _).alloc (Nat.le_refl _) _⟩
end Go.Proofs.YtjbimcdofenmdaaGreatDoor
