/- Plain helpers: a list of facts that outlive every call, carried as one fact, beside a row of the call's own that grows. No program stands here. The contract of addr.Valid. One byte made a string: string([]byte{b}). Plain: what strings.Cut at a colon returns, by the place of the first colon. Contracts of louvre/group.Meet and louvre/group.Has: they return the bitwise meet and the bit that is asked for. Condition of Meet: the cells of the slice hold 64-bit numbers. -/
import Derived.Test.YtmalncmdfmoccaaGreatDoorCKit
import Derived.Deep.RegionHeld3
import Derived.Deep.AppendLies
import Derived.Deep.Onto
import Derived.Lib.IndexMore
namespace Go.Proofs.YtmalncmdfmoccaaGreatDoor
open Go.RowKit
def Keep (p : Prop) : Prop:=∃ _ : Unit,p
theorem keep {p : Prop} (h : p) : Keep p:=⟨(),h⟩
theorem Keep.out {p : Prop} (h : Keep p) : p:=h.elim fun _ h => h
structure Pers where
  p : World → Prop
  s : World → Prop
  far : Option Nat → Prop
  st : ∀ (w w' : World) (row : Option Nat),far row → w.grownBy w' row → p w → p w'
  vis : ∀ w,p w → s w
  none_ : far none
  new : ∀ (w : World) (k : Nat),w.heap.size ≤ k → p w → far (some k)
def sees : List Pers → World → Prop
  | [],_ => True
  | x :: l,w => x.s w ∧ sees l w
structure Ok (w0 : World) (ps : List Pers) (w : World) : Prop where
  bel : Below w0.heap.size w0 w
  all : ∀ x ∈ ps,x.p w
def cellsAt (w : World) (b : Nat) : Nat → List Value → Prop
  | _,[] => True
  | i,v :: vs => w.cell? ⟨b,i,none⟩ = some v ∧ cellsAt w b (i + 1) vs
theorem cellsAt_of (w : World) (b : Nat) (t : TypeId) (cs : List Value) (h : Blk w b t cs.toArray) : cellsAt w b 0 cs:=by
  have key : ∀ (l : List Value) (i : Nat),(∀ j v,l[j]? = some v → w.cell? ⟨b,i + j,none⟩ = some v) → cellsAt w b i l:=by
    intro l
    induction l with
    | nil => intro i _; exact trivial
    | cons v vs ih =>
      intro i hl
      refine ⟨by simpa using hl 0 v rfl,ih (i + 1) fun j u hu => ?_⟩
      have:=hl (j + 1) u (by simpa using hu)
      rwa [show i + (j + 1) = i + 1 + j from by omega] at this
  refine key cs 0 fun j v hv => ?_
  rw [Nat.zero_add,h.cell]
  simpa using hv
def kBlk (b : Nat) (t : TypeId) (cs : List Value) : Pers where
  p w:=Blk w b t cs.toArray
  s w:=b < w.heap.size ∧ cellsAt w b 0 cs
  far row:=some b ≠ row
  st _ _ _ hr hb h:=h.grown hb hr
  vis w h:=⟨h.lt,cellsAt_of w b t cs h⟩
  none_:=by simp
  new w k hk h:=by have:=h.lt; simp; omega
def kVar (b : Nat) (t : TypeId) (cs : List Value) : Pers where
  p w:=Blk w b t cs.toArray
  s w:=(b < w.heap.size ∧ ∀ i,w.frozen? ⟨b,i,none⟩ = false) ∧ cellsAt w b 0 cs
  far row:=some b ≠ row
  st _ _ _ hr hb h:=h.grown hb hr
  vis w h:=⟨⟨h.lt,h.frozen⟩,cellsAt_of w b t cs h⟩
  none_:=by simp
  new w k hk h:=by have:=h.lt; simp; omega
def cellsFrom (w : World) (b i : Nat) : Nat → List Value → Prop
  | _,[] => True
  | j,v :: vs => w.cell? ⟨b,i + j,none⟩ = some v ∧ cellsFrom w b i (j + 1) vs
def kCells (b i : Nat) (cs : List Value) : Pers where
  p w:=b < w.heap.size ∧ cellsFrom w b i 0 cs
  s w:=b < w.heap.size ∧ cellsFrom w b i 0 cs
  far row:=some b ≠ row
  st w w' row hr hb h:=⟨Nat.lt_of_lt_of_le h.1 hb.size,by
    have key : ∀ (l : List Value) (j : Nat),cellsFrom w b i j l → cellsFrom w' b i j l:=by
      intro l
      induction l with
      | nil => intro _ _; exact trivial
      | cons v vs ih => intro j hl; exact ⟨(World.cell?_of_block (hb.block b h.1 hr)).trans hl.1,ih _ hl.2⟩
    exact key cs 0 h.2⟩
  vis _ h:=h
  none_:=by simp
  new w k hk h:=by have:=h.1; simp; omega
def kRow (B : Nat) (e : TypeId) (size : Nat) (v : Value) (n : Nat) (xs : List Value) : Pers where
  p w:=w.ownsRow B e size v n xs
  s _:=True
  far row:=v.ownBlock = none ∨ v.ownBlock ≠ row
  st _ _ _ hr hb h:=h.kept hb hr
  vis _ _:=trivial
  none_:=by cases hv : v.ownBlock <;> simp
  new w k hk h:=by
    cases hv : v.ownBlock with
    | none => exact .inl rfl
    | some g =>
      have:=(h.lt g hv).2
      exact .inr (by simp; omega)
def kFact (B : Nat) (q : World → Prop) (h : ∀ w w' : World,Below B w w' → q w → q w') : Pers where
  p w:=q w ∧ B ≤ w.heap.size
  s _:=True
  far row:=∀ k,row = some k → B ≤ k
  st w w' row hr hb hp:=⟨h w w' (Below.grown (Below.refl _ _) hb hp.2 fun k hk => hr k hk) hp.1,Nat.le_trans hp.2 hb.size⟩
  vis _ _:=trivial
  none_:=by simp
  new w k hw hp j hj:=by simp at hj; have:=hp.2; omega
section
variable {w0 w w' : World} {ps : List Pers}
theorem Ok.start (w : World) : Ok w [] w:=⟨Below.refl _ _,fun _ h => absurd h (by simp)⟩
theorem Ok.below (h : Ok w0 ps w) (hb : Below w.heap.size w w') : Ok w0 ps w' :=
  ⟨below_step h.bel hb,fun x hx => x.st _ _ none x.none_ (only_of_below hb none) (h.all x hx)⟩
theorem Ok.alloc_obj (h : Ok w0 ps w) (o : Obj) : Ok w0 ps (w.alloc o):=h.below ((Below.refl _ _).alloc (Nat.le_refl _) o)
theorem Ok.add (h : Ok w0 ps w) (x : Pers) (hx : x.p w) : Ok w0 (x :: ps) w :=
  ⟨h.bel,fun y hy => by
    rcases List.mem_cons.1 hy with rfl | hy
    · exact hx
    · exact h.all y hy⟩
theorem Ok.alloc (h : Ok w0 ps w) (k : Nat) (t : TypeId) (cs : List Value) (hk : w.heap.size = k) : Ok w0 (kBlk k t cs :: ps) (w.alloc (.cells cs.toArray t)) :=
  (h.alloc_obj _).add _ (by subst hk; exact Blk.new w t cs.toArray)
theorem Ok.var (h : Ok w0 ps w) (k : Nat) (t : TypeId) (cs : List Value) (hk : w.heap.size = k) : Ok w0 (kVar k t cs :: ps) (w.alloc (.cells cs.toArray t)) :=
  (h.alloc_obj _).add _ (by subst hk; exact Blk.new w t cs.toArray)
theorem Ok.drew (h : Ok w0 ps w) : Ok w0 ps w.drew:=h.below ((Below.refl _ _).drew)
theorem Ok.sees (h : Ok w0 ps w) : sees ps w:=by
  have key : ∀ l : List Pers,(∀ x ∈ l,x.p w) → Go.Proofs.YtmalncmdfmoccaaGreatDoor.sees l w:=by
    intro l
    induction l with
    | nil => intro _; exact trivial
    | cons x l ih => intro hl; exact ⟨x.vis _ (hl x (by simp)),ih fun y hy => hl y (by simp [hy])⟩
  exact key ps h.all
theorem Ok.drop (h : Ok w0 ps w) (qs : List Pers) (hq : ∀ x ∈ qs,x ∈ ps) : Ok w0 qs w:=⟨h.bel,fun x hx => h.all x (hq x hx)⟩
theorem Ok.tail {x : Pers} (h : Ok w0 (x :: ps) w) : Ok w0 ps w:=⟨h.bel,fun y hy => h.all y (by simp [hy])⟩
theorem only_set {a : World} (g : Nat) (i : Nat) (u : Value) : a.grownBy (a.setCell ⟨g,i,none⟩ u) (some g) :=
  ⟨rfl,rfl,rfl,by simp [World.setCell],fun j _ hne => Below.heap_setCell a ⟨g,i,none⟩ u j (fun e => hne (by rw [e]))⟩
theorem Ok.set_ {b i : Nat} {t : TypeId} {cs : List Value} {u : Value} (h : Ok w0 (kVar b t cs :: ps) w) (hb : w0.heap.size ≤ b) (hf : ∀ x ∈ ps,x.far (some b)) : Ok w0 (kVar b t (cs.set i u) :: ps) (w.setCell ⟨b,i,none⟩ u) where
  bel:=h.bel.setCell hb u
  all x hx:=by
    rcases List.mem_cons.1 hx with rfl | hx
    · have:=Blk.set_ (show Blk w b t cs.toArray from h.all _ (List.mem_cons_self ..)) i u
      simpa [kVar] using this
    · exact x.st _ _ _ (hf x hx) (only_set b i u) (h.all x (List.mem_cons_of_mem _ hx))
theorem Ok.get (h : Ok w0 ps w) (x : Pers) (hx : x ∈ ps) : x.p w:=h.all x hx
end
structure OkRow (w0 : World) (ps : List Pers) (e : TypeId) (size : Nat) (v : Value) (n : Nat) (xs : List Value) (w : World) : Prop where
  ok : Ok w0 ps w
  own : w.ownsRow w0.heap.size e size v n xs
  far : ∀ x ∈ ps,x.far v.ownBlock
section
variable {w0 w w' : World} {ps : List Pers} {e : TypeId} {size : Nat} {v : Value} {n : Nat} {xs : List Value}
theorem OkRow.start (h : Ok w0 ps w) (e : TypeId) (size : Nat) : OkRow w0 ps e size (.slice none 0 0) 0 [] w :=
  ⟨h,World.ownsRow_nil w w0.heap.size e size,fun x _ => x.none_⟩
theorem OkRow.of_new (h : Ok w0 ps w) (hb : Below w.heap.size w w') (hown : w'.ownsRow w.heap.size e size v n xs) : OkRow w0 ps e size v n xs w' :=
  ⟨h.below hb,hown.mono h.bel.size,fun x hx => by
    cases hv : v.ownBlock with
    | none => exact x.none_
    | some k => exact x.new w k (hown.lt k hv).1 (h.all x hx)⟩
theorem OkRow.below (h : OkRow w0 ps e size v n xs w) (hb : Below w.heap.size w w') : OkRow w0 ps e size v n xs w' :=
  ⟨h.ok.below hb,h.own.kept (only_of_below hb none) (by cases hv : v.ownBlock <;> simp),h.far⟩
theorem OkRow.add (h : OkRow w0 ps e size v n xs w) (x : Pers) (hx : x.p w) (hf : x.far v.ownBlock) : OkRow w0 (x :: ps) e size v n xs w :=
  ⟨h.ok.add x hx,h.own,fun y hy => by
    rcases List.mem_cons.1 hy with rfl | hy
    · exact hf
    · exact h.far y hy⟩
theorem OkRow.drew (h : OkRow w0 ps e size v n xs w) : OkRow w0 ps e size v n xs w.drew:=h.below ((Below.refl _ _).drew)
theorem OkRow.alloc_obj (h : OkRow w0 ps e size v n xs w) (o : Obj) : OkRow w0 ps e size v n xs (w.alloc o):=h.below ((Below.refl _ _).alloc (Nat.le_refl _) o)
theorem OkRow.alloc (h : OkRow w0 ps e size v n xs w) (k : Nat) (t : TypeId) (cs : List Value) (hk : w.heap.size = k) : OkRow w0 (kBlk k t cs :: ps) e size v n xs (w.alloc (.cells cs.toArray t)) :=
  (h.alloc_obj _).add _ (by subst hk; exact Blk.new w t cs.toArray) (by
    subst hk
    show some w.heap.size ≠ v.ownBlock
    intro hv
    have:=(h.own.lt _ hv.symm).2
    omega)
theorem OkRow.grown (h : OkRow w0 ps e size v n xs w) {v' : Value} {n' : Nat} {xs' : List Value} (hown : w'.ownsRow w0.heap.size e size v' n' xs') (hg : w.grownBy w' v.ownBlock) (hat : v'.ownBlock = none ∨ v'.ownBlock = v.ownBlock ∨ v'.ownBlock = some w.heap.size) : OkRow w0 ps e size v' n' xs' w' where
  ok:=⟨h.ok.bel.grown hg h.ok.bel.size (fun k hk => (h.own.lt k hk).1),fun x hx => x.st _ _ _ (h.far x hx) hg (h.ok.all x hx)⟩
  own:=hown
  far x hx:=by
    rcases hat with hat | hat | hat
    · rw [hat]; exact x.none_
    · rw [hat]; exact h.far x hx
    · rw [hat]; exact x.new w _ (Nat.le_refl _) (h.ok.all x hx)
theorem OkRow.appended (h : OkRow w0 ps e size v n xs w) {g m c : Nat} {xs' : List Value} (hown : w'.ownsRow w0.heap.size e size (.slice (some ⟨g,0,none⟩) m c) m xs') (hg : w.grownBy w' v.ownBlock) (hat : v.ownBlock = some g ∨ g = w.heap.size) :
    OkRow w0 ps e size (.slice (some ⟨g,0,none⟩) m c) m xs' w' :=
  h.grown hown hg (by
    right
    rcases hat with hat | hat
    · exact .inl (by rw [hat]; rfl)
    · exact .inr (by rw [hat]; rfl))
theorem OkRow.drop (h : OkRow w0 ps e size v n xs w) (qs : List Pers) (hq : ∀ x ∈ qs,x ∈ ps) : OkRow w0 qs e size v n xs w:=⟨h.ok.drop qs hq,h.own,fun x hx => h.far x (hq x hx)⟩
theorem OkRow.tail {x : Pers} (h : OkRow w0 (x :: ps) e size v n xs w) : OkRow w0 ps e size v n xs w:=⟨h.ok.tail,h.own,fun y hy => h.far y (by simp [hy])⟩
theorem OkRow.pers (h : OkRow w0 ps e size v n xs w) : Ok w0 (kRow w0.heap.size e size v n xs :: ps) w:=h.ok.add _ h.own
theorem OkRow.back (h : Ok w0 (kRow w0.heap.size e size v n xs :: ps) w) (hf : ∀ x ∈ ps,x.far v.ownBlock) : OkRow w0 ps e size v n xs w:=⟨h.tail,h.get _ (List.mem_cons_self ..),hf⟩
end
end Go.Proofs.YtmalncmdfmoccaaGreatDoor
namespace Go.Proofs.YtmalncmdfmoccaaGreatDoor
open Go.RowKit
def validN (c r : Int) : Bool:=decide (1 ≤ c ∧ c ≤ 1024 ∧ 1 ≤ r ∧ r ≤ 1024)
theorem validN_cases (c r : Int) (P : Prop) (h1 : ¬ 1 ≤ c → P) (h2 : 1 ≤ c → ¬ c ≤ 1024 → P) (h3 : 1 ≤ c → c ≤ 1024 → ¬ 1 ≤ r → P) (h4 : 1 ≤ c → c ≤ 1024 → 1 ≤ r → ¬ r ≤ 1024 → P) (h5 : 1 ≤ c → c ≤ 1024 → 1 ≤ r → r ≤ 1024 → P) : P:=by
  by_cases a : 1 ≤ c
  · by_cases b : c ≤ 1024
    · by_cases d : 1 ≤ r
      · by_cases e : r ≤ 1024
        · exact h5 a b d e
        · exact h4 a b d e
      · exact h3 a b d
    · exact h2 a b
  · exact h1 a
theorem addr_Valid (c r : Int) (w : World) :
    Calls Tryz.prog 178 #[.agg #[.int .i64 c,.int .i64 r]] w fun e w' => e = .returned (.bool (validN c r)) ∧ Below w.heap.size w w':=by
  apply validN_cases c r <;> intros
  all_goals
    go_enter Tryz.func178,Tryz.ntmps178
    go_wp2
    go_ret
    exact ⟨by simp only [Array.getD_eq_getD_getElem?]; simp [validN]; try omega,(Below.refl _ _).alloc (Nat.le_refl _) _⟩
end Go.Proofs.YtmalncmdfmoccaaGreatDoor
namespace Go.Proofs.YtmalncmdfmoccaaGreatDoor
open Go.RowKit
theorem run_byte1 {P : Program} (src dst e : TypeId) (hs : P.underlying src = some (.slice e)) (he : P.underlying e = some (.int .u8)) (hd : P.underlying dst = some .string) (W : World) (x : Int) (t : TypeId) :
    (convert src dst (.slice (some ⟨W.heap.size,0,none⟩) 1 1)).run P (W.alloc (.cells #[.int .u8 x] t)) = .ok (.string ⟨#[UInt8.ofNat x.toNat]⟩) (W.alloc (.cells #[.int .u8 x] t)):=by
  rw [run_convert_bytes_string _ _ _ e _ _ _ hs he hd]
  rw [run_bytesToString _ _ 1 1 [x]]
  · rfl
  · simp [go_sem]
end Go.Proofs.YtmalncmdfmoccaaGreatDoor
namespace Go.Proofs.YtmalncmdfmoccaaGreatDoor
theorem index_colon (l : List UInt8) (k : Nat) (hk : k < l.length) (h : ∀ j (hj : j < k),l[j]'(by omega) ≠ 58) (h2 : l[k] = 58) : Lib.index l [58] = (k : Int):=by
  induction l generalizing k with
  | nil => simp at hk
  | cons b l ih =>
    match k with
    | 0 =>
      have : b = 58:=by simpa using h2
      subst this
      simp [Lib.index]
    | k + 1 =>
      have hb : b ≠ 58:=by simpa using h 0 (by omega)
      have hi:=ih k (by simpa using hk) (fun j hj => by simpa using h (j + 1) (by omega)) (by simpa using h2)
      have hp : ([58] : List UInt8).isPrefixOf (b :: l) = false:=by simp [List.isPrefixOf]; exact fun e => hb e.symm
      rw [Lib.index,hp,hi]
      have : ((k : Int) == -1) = false:=by rw [beq_eq_false_iff_ne]; omega
      simp [this]
theorem index_none (l : List UInt8) (h : ∀ j (hj : j < l.length),l[j] ≠ 58) : Lib.index l [58] = -1:=by
  induction l with
  | nil => simp [Lib.index]
  | cons b l ih =>
    have hb : b ≠ 58:=h 0 (by simp)
    have hi:=ih (fun j hj => h (j + 1) (by simpa using hj))
    have hp : ([58] : List UInt8).isPrefixOf (b :: l) = false:=by simp [List.isPrefixOf]; exact fun e => hb e.symm
    rw [Lib.index,hp,hi]
    simp
theorem cut_colon (l : List UInt8) (k : Nat) (hk : k < l.length) (h : ∀ j (hj : j < k),l[j]'(by omega) ≠ 58) (h2 : l[k] = 58) : Lib.cut l [58] = (l.take k,l.drop (k + 1),true):=by
  unfold Lib.cut
  rw [index_colon l k hk h h2,if_pos (by omega)]
  simp
theorem cut_none (l : List UInt8) (h : ∀ j (hj : j < l.length),l[j] ≠ 58) : Lib.cut l [58] = (l,[],false):=by
  unfold Lib.cut
  rw [index_none l h,if_neg (by omega)]
end Go.Proofs.YtmalncmdfmoccaaGreatDoor
namespace Go.Proofs.YtmalncmdfmoccaaGreatDoor
open Go.RowKit
def hasB (s : Nat) (u : Int) : Bool:=decide (0 ≤ u ∧ u < 64) && s.testBit u.toNat
theorem has_word (s : Nat) (k : Nat) (hs : s < 18446744073709551616) : (bits BinOp.and IntKind.u64 ((s : Int) / 2 ^ k) 1 == 1) = s.testBit k:=by
  have e : ((s : Int) / 2 ^ k) = ((s / 2 ^ k : Nat) : Int):=by simp
  have h:=u64_and_nat (s / 2 ^ k) 1 (Nat.lt_of_le_of_lt (Nat.div_le_self _ _) hs) (by decide)
  rw [e,show (1 : Int) = ((1 : Nat) : Int) from rfl,h,nat_mask1,Nat.testBit_eq_decide_div_mod_eq]
  rw [Bool.eq_iff_iff]; simp; omega
theorem has_any (s : Int) (u : Int) (w : World) (h0 : 0 ≤ s) (h1 : s < 18446744073709551616) :
    Calls Tryz.prog 104 #[.int .u64 s,.int .i64 u] w fun e w' => e = .returned (.bool (hasB s.toNat u)) ∧ w = w':=by
  obtain ⟨s,rfl⟩:=Int.eq_ofNat_of_zero_le h0
  have hs : s < 18446744073709551616:=by omega
  rw [Int.toNat_natCast]
  by_cases a : 0 ≤ u
  · by_cases b : u < 64
    · go_enter Tryz.func104,Tryz.ntmps104
      go_wp2
      go_ret
      refine ⟨?_,rfl⟩
      simp only [Array.getD_eq_getD_getElem?]
      have:=has_word s u.toNat hs
      simp [hasB,a,b,this]
    · go_enter Tryz.func104,Tryz.ntmps104
      go_wp2
      go_ret
      exact ⟨by simp [hasB]; intro; omega,rfl⟩
  · go_enter Tryz.func104,Tryz.ntmps104
    go_wp2
    go_ret
    exact ⟨by simp [hasB]; omega,rfl⟩
end Go.Proofs.YtmalncmdfmoccaaGreatDoor
