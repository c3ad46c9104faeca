/- Plain: what parsing a list of tokens comes to. No program stands here. Contracts of op.Target, Mutates, Plain, words and Check. -/
import Derived.Test.YtmalncmdfmoccaaGreatDoorCLexP
import Derived.Test.YtmalncmdfmoccaaGreatDoorCLexC
import Derived.Test.YtmalncmdfmoccaaGreatDoorCOk
import Derived.Deep.Cut
import Derived.Deep.DeepCutAuto
namespace Go.Proofs.YtmalncmdfmoccaaGreatDoor
structure Nd where
  kind : Nat
  vk : Nat
  vn : Int
  vt : List UInt8
  r : R4
  op : Int
  fn : Nat
  n : Nat
def ndVal (t : Tk) : Nd:=⟨1,if t.kind = 2 then 3 else if t.kind = 3 then 2 else t.kind,if t.kind = 2 then 0 else t.num,if t.kind = 2 then t.text else [],R4.zero,0,0,0⟩
def ndRef (r : R4) : Nd:=⟨2,0,0,[],r,0,0,0⟩
def ndRange (r : R4) : Nd:=⟨3,0,0,[],r,0,0,0⟩
def ndNeg : Nd:=⟨4,0,0,[],R4.zero,0,0,0⟩
def ndPct : Nd:=⟨5,0,0,[],R4.zero,0,0,0⟩
def ndBin (op : Int) : Nd:=⟨6,0,0,[],R4.zero,op,0,0⟩
def ndCall (fn n : Nat) : Nd:=⟨7,0,0,[],R4.zero,0,fn,n⟩
def bindS (op : Int) : Nat :=
  if 7 ≤ op ∧ op ≤ 12 then 1 else if op = 6 then 2 else if op = 1 ∨ op = 2 then 3 else if op = 3 ∨ op = 4 then 4 else if op = 5 then 6 else if op = 13 then 7 else 0
def fnNames : List (List UInt8):=[[65,66,83],[83,73,71,78],[73,78,84],[84,82,85,78,67],[82,79,85,78,68],[77,79,68],[80,79,87,69,82],[83,81,82,84],[83,85,77],[80,82,79,68,85,67,84],[67,79,85,78,84],[67,79,85,78,84,65],[67,79,85,78,84,66,76,65,78,75],[65,86,69,82,65,71,69],[77,73,78],[77,65,88],[77,69,68,73,65,78],[76,65,82,71,69],[83,77,65,76,76],[73,70],[65,78,68],[79,82],[88,79,82],[78,79,84],[73,70,69,82,82,79,82],[73,83,69,82,82,79,82],[73,83,66,76,65,78,75],[73,83,78,85,77,66,69,82],[73,83,84,69,88,84],[67,72,79,79,83,69],[76,69,78],[76,69,70,84],[82,73,71,72,84],[77,73,68],[85,80,80,69,82],[76,79,87,69,82],[84,82,73,77],[67,79,78,67,65,84],[82,69,80,84],[69,88,65,67,84],[70,73,78,68],[86,65,76,85,69],[73,78,68,69,88],[77,65,84,67,72],[67,79,85,78,84,73,70],[68,83,85,77],[68,67,79,85,78,84],[68,65,86,71],[68,77,73,78],[68,77,65,88]]
def fnS (t : List UInt8) : Nat:=match fnNames.findIdx? (· == t) with
  | some i => i + 1
  | none => 0
def arS (fn : Nat) : Nat × Nat :=
  if fn ∈ [5,6,7,25,39,40,18,19,45,44] then (2,2)
  else if fn ∈ [20,41,43] then (2,3)
  else if fn ∈ [32,33] then (1,2)
  else if fn = 34 then (3,3)
  else if fn ∈ [21,22,23,38,9,10,11,12,14,15,16,17] then (1,16)
  else if fn = 30 then (2,16)
  else (1,1)
def wideS (fn i : Nat) : Bool :=
  if (arS fn).2 ≤ i then false
  else if fn ∈ [9,10,11,12,14,15,16,17] then true
  else if fn = 44 then i == 1
  else if fn ∈ [18,19,45,43,13] then i == 0
  else decide (46 ≤ fn ∧ fn ≤ 50)
def hdS (e : Nat) : List Tk → Tk
  | [] => ⟨0,0,[],R4.zero,e⟩
  | t :: _ => t
def isOp (ts : List Tk) (op : Int) : Bool:=match ts with
  | [] => false
  | t :: _ => decide (t.kind = 8 ∧ t.num = op)
inductive Rs
  | bad (at_ : Nat) (e : Int)
  | ok (ts : List Tk) (ns : List Nd) (n : Nat)
def pctS : List Tk → List Tk × Nat
  | [] => ([],0)
  | t :: ts => if t.kind = 8 ∧ t.num = 13 then ((pctS ts).1,(pctS ts).2 + 1) else (t :: ts,0)
inductive Md
  | lv (k : Nat)
  | ops (k : Nat)
  | sg
  | pc
  | pr
  | args (fn i : Nat)
def seqR (x : Option Rs) (g : List Tk → Nat → Option Rs) : Option Rs:=match x with
  | none => none
  | some (.bad a c) => some (.bad a c)
  | some (.ok ts ns n) => match g ts n with
    | none => none
    | some (.bad a c) => some (.bad a c)
    | some (.ok ts' ns' n') => some (.ok ts' (ns ++ ns') n')
def closeR (e fn at_ : Nat) (x : Option Rs) : Option Rs:=match x with
  | none => none
  | some (.bad a c) => some (.bad a c)
  | some (.ok ts ns n) =>
    if (hdS e ts).kind ≠ 10 then some (.bad (hdS e ts).at_ 4)
    else if n < (arS fn).1 ∨ (arS fn).2 < n then some (.bad at_ 11)
    else if 46 ≤ fn ∧ (ns.getLast?.map (·.kind)) ≠ some 2 ∧ (ns.getLast?.map (·.kind)) ≠ some 3 then some (.bad at_ 4)
    else some (.ok (ts.drop 1) (ns ++ [ndCall fn n]) n)
def parF (e : Nat) : Nat → Md → List Tk → Option Rs
  | 0,_,_ => none
  | f + 1,.lv k,ts => if 5 ≤ k then parF e f .sg ts else seqR (parF e f (.lv (k + 1)) ts) fun ts _ => parF e f (.ops k) ts
  | _ + 1,.ops _,[] => some (.ok [] [] 0)
  | f + 1,.ops k,t :: ts =>
    if t.kind = 8 ∧ bindS t.num = k then seqR (parF e f (.lv (k + 1)) ts) fun ts2 _ => seqR (some (.ok ts2 [ndBin t.num] 0)) fun ts3 _ => parF e f (.ops k) ts3
    else some (.ok (t :: ts) [] 0)
  | f + 1,.sg,ts =>
    if isOp ts 2 then seqR (parF e f .sg (ts.drop 1)) fun ts2 _ => some (.ok ts2 [ndNeg] 0)
    else seqR (parF e f .pc ts) fun ts2 _ =>
      if isOp ts2 5 then seqR (parF e f .sg (ts2.drop 1)) fun ts3 _ => some (.ok ts3 [ndBin 5] 0) else some (.ok ts2 [] 0)
  | f + 1,.pc,ts => seqR (parF e f .pr ts) fun ts2 _ => some (.ok (pctS ts2).1 (List.replicate (pctS ts2).2 ndPct) 0)
  | _ + 1,.pr,[] => some (.bad e 4)
  | f + 1,.pr,t :: ts =>
    if 1 ≤ t.kind ∧ t.kind ≤ 4 then some (.ok ts [ndVal t] 0)
    else if t.kind = 5 then some (.ok ts [ndRef t.r] 0)
    else if t.kind = 9 then seqR (parF e f (.lv 1) ts) fun ts2 _ => if (hdS e ts2).kind = 10 then some (.ok (ts2.drop 1) [] 0) else some (.bad (hdS e ts2).at_ 4)
    else if t.kind = 7 then
      if fnS t.text = 0 then some (.bad t.at_ 10)
      else if (hdS e ts).kind ≠ 9 then some (.bad (hdS e ts).at_ 4)
      else closeR e (fnS t.text) t.at_ (if (hdS e (ts.drop 1)).kind = 10 then some (.ok (ts.drop 1) [] 0) else parF e f (.args (fnS t.text) 0) (ts.drop 1))
    else some (.bad t.at_ 4)
  | f + 1,.args fn i,ts =>
    seqR (if (hdS e ts).kind ≠ 6 then parF e f (.lv 1) ts else if wideS fn i then some (.ok (ts.drop 1) [ndRange (hdS e ts).r] 0) else some (.bad (hdS e ts).at_ 4)) fun ts2 _ =>
      if (hdS e ts2).kind = 11 then parF e f (.args fn (i + 1)) (ts2.drop 1) else some (.ok ts2 [] (i + 1))
theorem seq_mono {x y : Option Rs} {g k : List Tk → Nat → Option Rs} {r : Rs} (h : seqR x g = some r) (hx : ∀ r,x = some r → y = some r) (hg : ∀ ts n r,g ts n = some r → k ts n = some r) : seqR y k = some r:=by
  unfold seqR at h ⊢
  cases x with
  | none => simp at h
  | some q =>
    rw [hx q rfl]
    cases q with
    | bad a c => exact h
    | ok ts ns n =>
      simp only [] at h ⊢
      cases hq : g ts n with
      | none => rw [hq] at h; simp at h
      | some q2 => rw [hq] at h; rw [hg ts n q2 hq]; exact h
theorem close_mono {e fn a : Nat} {x y : Option Rs} {r : Rs} (h : closeR e fn a x = some r) (hx : ∀ r,x = some r → y = some r) : closeR e fn a y = some r:=by
  cases x with
  | none => simp [closeR] at h
  | some q => rw [hx q rfl]; exact h
theorem par_mono {e : Nat} : ∀ (f : Nat) (m : Md) (ts : List Tk) (r : Rs),parF e f m ts = some r → parF e (f + 1) m ts = some r
  | 0,_,_,_,h => by simp [parF] at h
  | f + 1,.lv k,ts,r,h => by
    rw [parF] at h ⊢
    split at h
    · rename_i hk; rw [if_pos hk]; exact par_mono f _ _ _ h
    · rename_i hk; rw [if_neg hk]; exact seq_mono h (fun r => par_mono f _ _ r) fun ts n r => par_mono f _ _ r
  | f + 1,.ops k,[],r,h => by rw [parF] at h ⊢; exact h
  | f + 1,.ops k,t :: ts,r,h => by
    rw [parF] at h ⊢
    split at h
    · rename_i hk; rw [if_pos hk]
      exact seq_mono h (fun r => par_mono f _ _ r) fun ts n r h2 => seq_mono h2 (fun _ h => h) fun ts n r => par_mono f _ _ r
    · rename_i hk; rw [if_neg hk]; exact h
  | f + 1,.sg,ts,r,h => by
    rw [parF] at h ⊢
    split at h
    · rename_i hk; rw [if_pos hk]; exact seq_mono h (fun r => par_mono f _ _ r) fun _ _ _ h => h
    · rename_i hk; rw [if_neg hk]
      refine seq_mono h (fun r => par_mono f _ _ r) fun ts n r h2 => ?_
      split at h2
      · rename_i hk; rw [if_pos hk]; exact seq_mono h2 (fun r => par_mono f _ _ r) fun _ _ _ h => h
      · rename_i hk; rw [if_neg hk]; exact h2
  | f + 1,.pc,ts,r,h => by
    rw [parF] at h ⊢
    exact seq_mono h (fun r => par_mono f _ _ r) fun _ _ _ h => h
  | f + 1,.pr,[],r,h => by rw [parF] at h ⊢; exact h
  | f + 1,.pr,t :: ts,r,h => by
    rw [parF] at h ⊢
    split at h
    · rename_i hk; rw [if_pos hk]; exact h
    rename_i hk; rw [if_neg hk]
    split at h
    · rename_i hk; rw [if_pos hk]; exact h
    rename_i hk; rw [if_neg hk]
    split at h
    · rename_i hk; rw [if_pos hk]; exact seq_mono h (fun r => par_mono f _ _ r) fun _ _ _ h => h
    rename_i hk; rw [if_neg hk]
    split at h
    · rename_i hk; rw [if_pos hk]
      split at h
      · rename_i hk; rw [if_pos hk]; exact h
      rename_i hk; rw [if_neg hk]
      split at h
      · rename_i hk; rw [if_pos hk]; exact h
      rename_i hk; rw [if_neg hk]
      refine close_mono h fun r h2 => ?_
      split at h2
      · rename_i hk; rw [if_pos hk]; exact h2
      · rename_i hk; rw [if_neg hk]; exact par_mono f _ _ _ h2
    · rename_i hk; rw [if_neg hk]; exact h
  | f + 1,.args fn i,ts,r,h => by
    rw [parF] at h ⊢
    refine seq_mono h (fun r h1 => ?_) fun ts n r h2 => ?_
    · split at h1
      · rename_i hk; rw [if_pos hk]; exact par_mono f _ _ _ h1
      · rename_i hk; rw [if_neg hk]; exact h1
    · split at h2
      · rename_i hk; rw [if_pos hk]; exact par_mono f _ _ _ h2
      · rename_i hk; rw [if_neg hk]; exact h2
theorem par_more {e f g : Nat} {m : Md} {ts : List Tk} {r : Rs} (h : parF e f m ts = some r) (hg : f ≤ g) : parF e g m ts = some r:=by
  obtain ⟨d,rfl⟩:=Nat.le.dest hg
  induction d with
  | zero => exact h
  | succ d ih => exact par_mono _ _ _ _ (ih (by omega))
end Go.Proofs.YtmalncmdfmoccaaGreatDoor
namespace Go.Proofs.YtmalncmdfmoccaaGreatDoor
open Go.RowKit
end Go.Proofs.YtmalncmdfmoccaaGreatDoor
