/- A loop over an iterator that keeps its state in one captured cell: one integer a round, nobody leaves early. No program stands here. A loop over an iterator that writes no captured cell: one value a round, nobody leaves early (XIter's like). No program stands here. Contracts of the lexer's tests of bytes. The iterator piece of the lexer, and length: how many bytes from a place on pass a test. Plain helpers: a row of bytes of the call's own (as in XAddrC, without the law's capitals). The contract of glyph.Upper. Contracts of dec.digits, dec.signed and of the lexer's next and plain. -/
import Derived.Test.YtjbimcdofenmdaaGreatDoorKOk
import Derived.RangeFuncNested
import Derived.RangeFuncBound
import Derived.RangeFuncCalls
import Derived.RangeFuncLeaves
import Derived.RangeFuncBox
import Derived.Shelf.Abstract
import Derived.OwnWalkIn
import Derived.TacticsInMore
import Derived.LoopNIn
import Derived.LoopIn
import Derived.Maps.AppendAt
import Derived.Test.YtjbimcdofenmdaaGreatDoorKLexP
import Derived.IntWalk
import Derived.Test.YtjbimcdofenmdaaGreatDoorKAddrP
import Derived.Laws.IdiomStrings
import Derived.Lib.Strings
namespace Go.Proofs.YtjbimcdofenmdaaGreatDoor
open Go.RowKit
def goesOn (R : World → Prop) : Exit → Act → World → Prop
  | .normal,_,w => R w
  | _,_,_ => False
def Rounds (F : Fence) (m : Nat) (P : Program) (l o : Nat) (xs : List Int) (J : List Int → World → Prop) : Prop :=
  ∀ (pre : List Int) (x : Int) (W1 : World),J pre W1 → pre ++ [x] <+: xs → YieldAt F m P l #[.int .i64 x] W1 fun e W' => e = .returned (.bool true) ∧ J (pre ++ [x]) W' ∧ W'.heap[o]? = W1.heap[o]?
def Hands (F : Fence) (n : Nat) (P : Program) (gf : Nat) (lb : Array Value) (o : Nat) (K : World → Prop) (xs : List Int) (w : World) : Prop :=
  ∀ (l : Nat) (J : List Int → World → Prop) (W : World),(∀ pre W,J pre W → K W) → (∀ pre W v,J pre W → J pre (W.setCell ⟨o,0,none⟩ v)) → (∀ pre W,J pre W → J pre W.drew) → Rounds F (n - 1) P l o xs J → W.heap[o]? = w.heap[o]? → J [] W →
    CallsIn F n P gf (#[.func (.yield l) #[] #[]] ++ lb) W fun e W' => (∃ v,e = .returned v) ∧ J xs W'
theorem range_hands {F : Fence} {n : Nat} {P : Program} {g : Operand} {ps : Array Tmp} {assign body : Code} {Q : Exit → Act → World → Prop} {a : Act} {w : World}
    (hro : F.round = none) (h1 : 1 ≤ n) {gf : Nat} {lb : Array Value} (hg : a.eval g = .func (.func gf) #[] lb) (hFg : F.fn gf) (eg : ∀ args w,(callFunc gf args).run P w = .ok (.enter gf args) w)
    (xs : List Int) (hps : ps.size = 1) (o : Nat) (ho : o < w.heap.size) {K : World → Prop} (hseq : Hands F (n - 1) P gf lb o K xs w)
    (I : List Int → World → Prop)
    (hIp : ∀ pre W l ob ob',I pre W → w.heap.size ≤ l → W.heap[l]? = some ob → ob.isCells = false → I pre (W.putObj l ob'))
    (hIa : ∀ pre W ob,I pre W → I pre (W.alloc ob)) (hIs : ∀ pre W v,I pre W → I pre (W.setCell ⟨o,0,none⟩ v)) (hId : ∀ pre W,I pre W → I pre W.drew) (hIK : ∀ pre W,I pre W → K W) (h0 : I [] w) (a₁ : Int → Act)
    (hassign : ∀ (l : Nat) (x : Int) (W : World) (K : Act → World → Prop),K (a₁ x) W →
      assign.wpIn (F.inRound l) (n - 1 - 1) P (Exit.then K (fun _ _ _ => False)) { tmps:=(ps.zip #[.int .i64 x]).foldl (fun t (p,v) => t.setIfInBounds p v) a.tmps,defers:=[] } W)
    (hbody : ∀ (l : Nat) (pre : List Int) (x : Int) (W : World),w.heap.size ≤ l → I pre W → o < W.heap.size → pre ++ [x] <+: xs →
      body.wpIn (F.inRound l) (n - 1 - 1) P (goesOn fun W' => KeepsFrom w.heap.size W W' ∧ I (pre ++ [x]) W' ∧ W'.heap[o]? = W.heap[o]?) (a₁ x) W)
    (hdone : ∀ (D : Nat) (W : World),w.heap.size ≤ D → I xs W → W.heap[D]? = some (.deferred (some [])) → Q .normal { a with defers:={ target:=.collected D,args:=#[] } :: a.defers } W) :
    (Code.rangeFunc g ps assign body).wpIn F n P Q a w:=by
  refine wpIn_rangeFunc fun fn hfn => ?_
  rw [hro]
  obtain ⟨L,hL⟩ : ∃ L : LoopState → Option Code → Loop,L = fun st pe => { state:=st,pending:=pe,fn,tmps:=a.tmps,params:=ps,assign,body,defers:=w.heap.size }:=⟨_,rfl⟩
  obtain ⟨W1,hW1⟩ : ∃ W1,(w.alloc (.deferred (some []))).alloc (.loop (L .ready none)) = W1:=⟨_,rfl⟩
  have hl : W1.heap[w.heap.size + 1]? = some (.loop (L .ready none)):=by
    rw [← hW1]
    have:=World.alloc_heap_new (w.alloc (.deferred (some []))) (.loop (L .ready none))
    rwa [World.size_alloc] at this
  have hd : W1.heap[w.heap.size]? = some (.deferred (some [])):=by
    rw [← hW1]
    exact (Below.heap_alloc _ _ _ (by simp)).trans (World.alloc_heap_new w _)
  have hoo : W1.heap[o]? = w.heap[o]?:=by
    rw [← hW1]
    exact (Below.heap_alloc _ _ _ (by simp; omega)).trans (Below.heap_alloc w _ _ ho)
  refine ⟨w.heap.size + 1,[{ target:=.collected w.heap.size,args:=#[] }],W1,{ target:=.fn (.func gf) lb,args:=#[.func (.yield (w.heap.size + 1)) #[] #[]] },W1,gf,
    #[.func (.yield (w.heap.size + 1)) #[] #[]] ++ lb,W1,?_,?_,?_,?_,fun _ => h1,?_⟩
  · rw [← hW1,hL]
    exact run_enterLoop_outer _ _ _ _ _
  · simp only [resolve,hg]
    simp [go_sem]
  · intro f' hf'
    simp [Target.leads] at hf'
    subst hf'
    exact hFg
  · simp [invoke,go_sem,eg]
  · refine (hseq (w.heap.size + 1) (fun pre W => I pre W ∧ W.heap[w.heap.size + 1]? = some (.loop (L .ready none)) ∧ W.heap[w.heap.size]? = some (.deferred (some [])) ∧ o < W.heap.size) W1
      (fun pre W h => hIK pre W h.1)
      (fun pre W v h => ⟨hIs pre W v h.1,(Below.heap_setCell W ⟨o,0,none⟩ v _ (by simp; omega)).trans h.2.1,(Below.heap_setCell W ⟨o,0,none⟩ v _ (by simp; omega)).trans h.2.2.1,by simpa [World.setCell] using h.2.2.2⟩)
      (fun pre W h => ⟨hId pre W h.1,h.2⟩) ?_ hoo ⟨by rw [← hW1]; exact hIa _ _ _ (hIa _ _ _ h0),hl,hd,by rw [← hW1]; simp; omega⟩).mono ?_
    · rintro pre x W ⟨hi,hl,hd,hoW⟩ hpx
      have hlt : w.heap.size + 1 < W.heap.size:=(Array.getElem?_eq_some_iff.1 hl).1
      have hy:=run_yield (P:=P) (args:=#[.int .i64 x]) hl (by rw [hL]; exact hps.symm)
      rw [hL] at hy
      refine ⟨fn,_,assign,body,hy,roundIn_of_wpIn hfn (hassign _ x W _ ⟨_,run_beginRound hl (by rw [hL]),?_⟩)⟩
      clear hy
      have hl2 : (W.putObj (w.heap.size + 1) (.loop { L .ready none with state:=.busy })).heap[w.heap.size + 1]? = some (.loop { L .ready none with state:=.busy }):=World.putObj_heap_same hlt
      have hd2 : (W.putObj (w.heap.size + 1) (.loop { L .ready none with state:=.busy })).heap[w.heap.size]? = some (.deferred (some [])):=(World.putObj_heap_other (by omega)).trans hd
      have ho2 : (W.putObj (w.heap.size + 1) (.loop { L .ready none with state:=.busy })).heap[o]? = W.heap[o]?:=World.putObj_heap_other (by omega)
      refine wpIn_mono (hbody _ pre x _ (by omega) (hIp _ _ _ _ _ hi (by omega) hl rfl) (by simpa using hoW) hpx) ?_
      rintro e a3 W3 hp
      cases e with
      | normal =>
        obtain ⟨hk3,hi3,ho3⟩:=hp
        have hl3:=hk3.same _ _ (by omega) hl2 rfl
        have hd3:=hk3.same _ _ (Nat.le_refl _) hd2 rfl
        have hr:=run_endRound (P:=P) none hl3
        have hoW3 : o < W3.heap.size:=Nat.lt_of_lt_of_le (by simpa using hoW) hk3.size
        refine ⟨_,_,hr,rfl,⟨hIp _ _ _ _ _ hi3 (by omega) hl3 rfl,?_,(World.putObj_heap_other (by omega)).trans hd3,by simpa using hoW3⟩,(World.putObj_heap_other (by omega)).trans (ho3.trans ho2)⟩
        rw [World.putObj_heap_same (Array.getElem?_eq_some_iff.1 hl3).1,hL]
        rfl
      | ret => exact hp.elim
      | exit id => exact hp.elim
      | goto t => exact hp.elim
      | panic ch => exact hp.elim
      | outgrown => exact hp.elim
    · rintro e W2 ⟨⟨v,rfl⟩,hi,hl,hd,_⟩
      have hr:=run_endLoop (P:=P) hl (by rw [hL]; simp)
      rw [show (L .ready none).pending = none from by rw [hL]] at hr
      exact ⟨none,_,hr,hdone _ _ (Nat.le_refl _) (hIp _ _ _ _ _ hi (by omega) hl rfl) ((World.putObj_heap_other (by omega)).trans hd)⟩
end Go.Proofs.YtjbimcdofenmdaaGreatDoor
namespace Go.Proofs.YtjbimcdofenmdaaGreatDoor
open Go.RowKit
def RoundsV (F : Fence) (m : Nat) (P : Program) (l : Nat) (os : List Nat) (xs : List Value) (J : List Value → World → Prop) : Prop :=
  ∀ (pre : List Value) (x : Value) (W1 : World),J pre W1 → pre ++ [x] <+: xs → YieldAt F m P l #[x] W1 fun e W' => e = .returned (.bool true) ∧ J (pre ++ [x]) W' ∧ ∀ o ∈ os,W'.heap[o]? = W1.heap[o]?
def HandsV (F : Fence) (n : Nat) (P : Program) (gf : Nat) (lb : Array Value) (os : List Nat) (K : World → Prop) (xs : List Value) (w : World) : Prop :=
  ∀ (l : Nat) (J : List Value → World → Prop) (W : World),(∀ pre W,J pre W → K W) → (∀ pre W,J pre W → J pre W.drew) → RoundsV F (n - 1) P l os xs J → (∀ o ∈ os,W.heap[o]? = w.heap[o]?) → J [] W →
    CallsIn F n P gf (#[.func (.yield l) #[] #[]] ++ lb) W fun e W' => (∃ v,e = .returned v) ∧ J xs W'
theorem range_handsV {F : Fence} {n : Nat} {P : Program} {g : Operand} {ps : Array Tmp} {assign body : Code} {Q : Exit → Act → World → Prop} {a : Act} {w : World}
    (hro : F.round = none) (h1 : 1 ≤ n) {gf : Nat} {lb : Array Value} (hg : a.eval g = .func (.func gf) #[] lb) (hFg : F.fn gf) (eg : ∀ args w,(callFunc gf args).run P w = .ok (.enter gf args) w)
    (xs : List Value) (hps : ps.size = 1) (os : List Nat) (ho : ∀ o ∈ os,o < w.heap.size) {K : World → Prop} (hseq : HandsV F (n - 1) P gf lb os K xs w)
    (I : List Value → World → Prop)
    (hIp : ∀ pre W l ob ob',I pre W → w.heap.size ≤ l → W.heap[l]? = some ob → ob.isCells = false → I pre (W.putObj l ob'))
    (hIa : ∀ pre W ob,I pre W → I pre (W.alloc ob)) (hId : ∀ pre W,I pre W → I pre W.drew) (hIK : ∀ pre W,I pre W → K W) (h0 : I [] w) (a₁ : Value → Act)
    (hassign : ∀ (l : Nat) (x : Value) (W : World) (K : Act → World → Prop),K (a₁ x) W →
      assign.wpIn (F.inRound l) (n - 1 - 1) P (Exit.then K (fun _ _ _ => False)) { tmps:=(ps.zip #[x]).foldl (fun t (p,v) => t.setIfInBounds p v) a.tmps,defers:=[] } W)
    (hbody : ∀ (l : Nat) (pre : List Value) (x : Value) (W : World),w.heap.size ≤ l → I pre W → (∀ o ∈ os,o < W.heap.size) → pre ++ [x] <+: xs →
      body.wpIn (F.inRound l) (n - 1 - 1) P (goesOn fun W' => KeepsFrom w.heap.size W W' ∧ I (pre ++ [x]) W' ∧ ∀ o ∈ os,W'.heap[o]? = W.heap[o]?) (a₁ x) W)
    (hdone : ∀ (D : Nat) (W : World),w.heap.size ≤ D → I xs W → W.heap[D]? = some (.deferred (some [])) → Q .normal { a with defers:={ target:=.collected D,args:=#[] } :: a.defers } W) :
    (Code.rangeFunc g ps assign body).wpIn F n P Q a w:=by
  refine wpIn_rangeFunc fun fn hfn => ?_
  rw [hro]
  obtain ⟨L,hL⟩ : ∃ L : LoopState → Option Code → Loop,L = fun st pe => { state:=st,pending:=pe,fn,tmps:=a.tmps,params:=ps,assign,body,defers:=w.heap.size }:=⟨_,rfl⟩
  obtain ⟨W1,hW1⟩ : ∃ W1,(w.alloc (.deferred (some []))).alloc (.loop (L .ready none)) = W1:=⟨_,rfl⟩
  have hl : W1.heap[w.heap.size + 1]? = some (.loop (L .ready none)):=by
    rw [← hW1]
    have:=World.alloc_heap_new (w.alloc (.deferred (some []))) (.loop (L .ready none))
    rwa [World.size_alloc] at this
  have hd : W1.heap[w.heap.size]? = some (.deferred (some [])):=by
    rw [← hW1]
    exact (Below.heap_alloc _ _ _ (by simp)).trans (World.alloc_heap_new w _)
  have hoo : ∀ o ∈ os,W1.heap[o]? = w.heap[o]?:=by
    intro o hox
    have hlt:=ho o hox
    rw [← hW1]
    exact (Below.heap_alloc _ _ _ (by simp; omega)).trans (Below.heap_alloc w _ _ hlt)
  refine ⟨w.heap.size + 1,[{ target:=.collected w.heap.size,args:=#[] }],W1,{ target:=.fn (.func gf) lb,args:=#[.func (.yield (w.heap.size + 1)) #[] #[]] },W1,gf,
    #[.func (.yield (w.heap.size + 1)) #[] #[]] ++ lb,W1,?_,?_,?_,?_,fun _ => h1,?_⟩
  · rw [← hW1,hL]
    exact run_enterLoop_outer _ _ _ _ _
  · simp only [resolve,hg]
    simp [go_sem]
  · intro f' hf'
    simp [Target.leads] at hf'
    subst hf'
    exact hFg
  · simp [invoke,go_sem,eg]
  · refine (hseq (w.heap.size + 1) (fun pre W => I pre W ∧ W.heap[w.heap.size + 1]? = some (.loop (L .ready none)) ∧ W.heap[w.heap.size]? = some (.deferred (some [])) ∧ ∀ o ∈ os,o < W.heap.size) W1
      (fun pre W h => hIK pre W h.1)
      (fun pre W h => ⟨hId pre W h.1,h.2⟩) ?_ hoo ⟨by rw [← hW1]; exact hIa _ _ _ (hIa _ _ _ h0),hl,hd,fun o hox => by have:=ho o hox; rw [← hW1]; simp; omega⟩).mono ?_
    · rintro pre x W ⟨hi,hl,hd,hoW⟩ hpx
      have hlt : w.heap.size + 1 < W.heap.size:=(Array.getElem?_eq_some_iff.1 hl).1
      have hy:=run_yield (P:=P) (args:=#[x]) hl (by rw [hL]; exact hps.symm)
      rw [hL] at hy
      refine ⟨fn,_,assign,body,hy,roundIn_of_wpIn hfn (hassign _ x W _ ⟨_,run_beginRound hl (by rw [hL]),?_⟩)⟩
      clear hy
      have hl2 : (W.putObj (w.heap.size + 1) (.loop { L .ready none with state:=.busy })).heap[w.heap.size + 1]? = some (.loop { L .ready none with state:=.busy }):=World.putObj_heap_same hlt
      have hd2 : (W.putObj (w.heap.size + 1) (.loop { L .ready none with state:=.busy })).heap[w.heap.size]? = some (.deferred (some [])):=(World.putObj_heap_other (by omega)).trans hd
      have ho2 : ∀ o ∈ os,(W.putObj (w.heap.size + 1) (.loop { L .ready none with state:=.busy })).heap[o]? = W.heap[o]?:=fun o hox => World.putObj_heap_other (by have:=ho o hox; omega)
      refine wpIn_mono (hbody _ pre x _ (by omega) (hIp _ _ _ _ _ hi (by omega) hl rfl) (fun o hox => by simpa using hoW o hox) hpx) ?_
      rintro e a3 W3 hp
      cases e with
      | normal =>
        obtain ⟨hk3,hi3,ho3⟩:=hp
        have hl3:=hk3.same _ _ (by omega) hl2 rfl
        have hd3:=hk3.same _ _ (Nat.le_refl _) hd2 rfl
        have hr:=run_endRound (P:=P) none hl3
        have hoW3 : ∀ o ∈ os,o < W3.heap.size:=fun o hox => Nat.lt_of_lt_of_le (by simpa using hoW o hox) hk3.size
        refine ⟨_,_,hr,rfl,⟨hIp _ _ _ _ _ hi3 (by omega) hl3 rfl,?_,(World.putObj_heap_other (by omega)).trans hd3,fun o hox => by simpa using hoW3 o hox⟩,fun o hox => (World.putObj_heap_other (by have:=ho o hox; omega)).trans ((ho3 o hox).trans (ho2 o hox))⟩
        rw [World.putObj_heap_same (Array.getElem?_eq_some_iff.1 hl3).1,hL]
        rfl
      | ret => exact hp.elim
      | exit id => exact hp.elim
      | goto t => exact hp.elim
      | panic ch => exact hp.elim
      | outgrown => exact hp.elim
    · rintro e W2 ⟨⟨v,rfl⟩,hi,hl,hd,_⟩
      have hr:=run_endLoop (P:=P) hl (by rw [hL]; simp)
      rw [show (L .ready none).pending = none from by rw [hL]] at hr
      exact ⟨none,_,hr,hdone _ _ (Nat.le_refl _) (hIp _ _ _ _ _ hi (by omega) hl rfl) ((World.putObj_heap_other (by omega)).trans hd)⟩
end Go.Proofs.YtjbimcdofenmdaaGreatDoor
namespace Go.Proofs.YtjbimcdofenmdaaGreatDoor
section
open Go.RowKit
theorem dig_int (b : UInt8) : isDig b = (decide (48 ≤ (b.toNat : Int)) && decide ((b.toNat : Int) ≤ 57)):=by
  unfold isDig
  rw [Bool.eq_iff_iff]
  simp only [Bool.and_eq_true,decide_eq_true_eq]
  omega
theorem let_iff (b : UInt8) : isLet b = true ↔ (65 ≤ b.toNat ∧ b.toNat ≤ 90) ∨ (97 ≤ b.toNat ∧ b.toNat ≤ 122):=by
  unfold isLet letV
  split
  · simp; omega
  · split
    · simp; omega
    · simp; omega
end
section
open Go.RowKit
attribute [local go_sem] Oper.semAt_some
def bytesV (l : List UInt8) : List Value:=l.map fun b => .int .u8 b.toNat
theorem bytesV_app (k l : List UInt8) : bytesV (k ++ l) = bytesV k ++ bytesV l:=by simp [bytesV]
def digRun (s : ByteArray) (i : Nat) : List UInt8:=(s.data.toList.drop i).takeWhile isDig
def Counts (w : World) (pre : List Value) (W : World) : Prop:=Boxed W w.heap.size 3 (.int .i64 (pre.length : Int)) ∧ Below w.heap.size w W
def wrdRun (s : ByteArray) (i : Nat) : List UInt8:=(s.data.toList.drop i).takeWhile isWrd
end
section
open Go.RowKit
def Bytes8 (w : World) (b : Nat) (l : List UInt8) : Prop:=∀ j (hj : j < l.length),w.cell? ⟨b,j,none⟩ = some (.int .u8 (l[j].toNat : Int)) ∧ w.frozen? ⟨b,j,none⟩ = false
theorem Bytes8.set_ {w : World} {b : Nat} {l : List UInt8} (h : Bytes8 w b l) (i : Nat) (_hi : i < l.length) (x : UInt8) (v : Int) (hv : v = (x.toNat : Int)) : Bytes8 (w.setCell ⟨b,i,none⟩ (.int .u8 v)) b (l.set i x):=by
  subst hv
  intro j hj
  have hj' : j < l.length:=by simpa using hj
  refine ⟨?_,by rw [World.frozen?_setCell]; exact (h j hj').2⟩
  by_cases e : i = j
  · subst e
    rw [World.cell?_setCell_same' _ _ _ (by rw [(h i hj').1]; rfl)]; simp
  · rw [World.cell?_setCell_other (h:=by intro h; injection h with _ h2 _; exact e h2),(h j hj').1]; simp [e]
theorem Bytes8.made (w : World) (s : ByteArray) (t : TypeId) (cap : Nat) : Bytes8 (w.alloc (.cells (bytesRow s cap) t ((bytesRow s cap).size,(bytesRow s cap).size + 1))) w.heap.size s.data.toList:=by
  intro j hj
  have hj' : j < s.data.size:=by simpa using hj
  have hsz : s.data.size ≤ (bytesRow s cap).size:=by unfold bytesRow; simp
  refine ⟨?_,?_⟩
  · rw [World.cell?_alloc_mark,bytesRow_at s cap j hj']
    simp
  · rw [World.frozen?_alloc_mark]
    simp; omega
theorem addr_add0 (b j : Nat) : (Addr.add ⟨b,0,none⟩ j) = ⟨b,j,none⟩:=by
  unfold Addr.add; split
  · subst_vars; rfl
  · simp
theorem Bytes8.string {P : Program} {w : World} {b : Nat} {l : List UInt8} (h : Bytes8 w b l) (src dst e : TypeId) (hs : P.underlying src = some (.slice e)) (he : P.underlying e = some (.int .u8)) (hd : P.underlying dst = some .string) (cap : Nat) :
    (convert src dst (.slice (some ⟨b,0,none⟩) l.length cap)).run P w = .ok (.string ⟨l.toArray⟩) w :=
  run_convert_bytes_back w src dst e ⟨b,0,none⟩ cap l hs he hd fun j hj => by have:=(h j hj).1; have e : (Addr.add ⟨b,0,none⟩ j) = ⟨b,j,none⟩:=addr_add0 b j; rw [e]; exact this
def upTo (l : List UInt8) (k : Nat) : List UInt8:=(l.take k).map upB ++ l.drop k
theorem upTo_len (l : List UInt8) (k : Nat) : (upTo l k).length = l.length:=by simp [upTo]; omega
theorem upTo_at (l : List UInt8) (k : Nat) (h : k < l.length) : (upTo l k)[k]'(by rw [upTo_len]; exact h) = l[k]:=by
  unfold upTo
  rw [List.getElem_append_right (by simp; omega)]
  simp [Nat.min_eq_left (Nat.le_of_lt h)]
theorem upTo_succ (l : List UInt8) (k : Nat) (h : k < l.length) : upTo l (k + 1) = (upTo l k).set k (upB l[k]):=by
  have hm : ((l.take k).map upB).length = k:=by simp; omega
  unfold upTo
  rw [List.set_append_right _ _ (by omega),hm,Nat.sub_self,List.take_succ_eq_append_getElem h,List.map_append,List.append_assoc,List.drop_eq_getElem_cons h]
  rfl
theorem upTo_same (l : List UInt8) (k : Nat) (h : k < l.length) (e : upB l[k] = l[k]) : upTo l (k + 1) = upTo l k:=by
  rw [upTo_succ l k h,e]
  apply List.ext_getElem (by simp)
  intro i h1 h2
  rw [List.getElem_set]
  split
  · rename_i hi
    subst hi
    rw [upTo_at l k h]
  · rfl
theorem upB_same (b : UInt8) (h : ¬ (97 ≤ b.toNat ∧ b.toNat ≤ 122)) : upB b = b:=by unfold upB; rw [if_neg h]
theorem upB_low (b : UInt8) (h : 97 ≤ b.toNat ∧ b.toNat ≤ 122) : (upB b).toNat = b.toNat - 32:=by
  unfold upB; rw [if_pos h,UInt8.toNat_ofNat']; omega
end
section
open Go.RowKit
end
section
open Go.RowKit
def byteS (s : ByteArray) (i : Nat) : UInt8:=s.data.toList[i]?.getD 0
theorem run_take (p : UInt8 → Bool) (l : List UInt8) : l.take (l.takeWhile p).length = l.takeWhile p:=by
  have h:=List.takeWhile_append_dropWhile (p:=p) (l:=l)
  conv => lhs; arg 2; rw [← h]
  rw [List.take_left]
end
end Go.Proofs.YtjbimcdofenmdaaGreatDoor
