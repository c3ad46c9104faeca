/- Contracts of the reference's Column and Parse of addresses. The contract of the laws' fixed address. The walks of the laws AddrLess, AddrOrder and AddrReads. Rows of strings, and strings.Join of them. The contract of the lexer's text. -/
import Derived.Test.YtmalncmdfmoccaaGreatDoorBMem
import Derived.Test.YtmalncmdfmoccaaGreatDoorBAddrW3
import Derived.Lib.IndexBytes
import Derived.Test.YtmalncmdfmoccaaGreatDoorBGrpJ
import Derived.OpenShut
import Derived.Deep.RegionHeld3
import Derived.Test.YtmalncmdfmoccaaGreatDoorBOk
import Derived.Test.YtmalncmdfmoccaaGreatDoorBLexI
import Derived.Test.YtmalncmdfmoccaaGreatDoorBShelf
import Derived.Test.YtmalncmdfmoccaaGreatDoorBDpP
import Derived.Deep.DeepCutAuto
namespace Go.Proofs.YtmalncmdfmoccaaGreatDoor
open Go.RowKit
end Go.Proofs.YtmalncmdfmoccaaGreatDoor
namespace Go.Proofs.YtmalncmdfmoccaaGreatDoor
section
open Go.RowKit
end
section
open Go.RowKit
end
end Go.Proofs.YtmalncmdfmoccaaGreatDoor
namespace Go.Proofs.YtmalncmdfmoccaaGreatDoor
open Go.RowKit
def byt (l : List UInt8) : ByteArray:=⟨l.toArray⟩
def strsV (l : List (List UInt8)) : List Value:=l.map fun x => .string (byt x)
theorem strsV_snoc (l : List (List UInt8)) (x : List UInt8) : strsV (l ++ [x]) = strsV l ++ [.string (byt x)]:=by simp [strsV]
theorem byt_map (l : List (List UInt8)) : (l.map byt).map (·.data.toList) = l:=by
  rw [List.map_map]
  have : ((fun x : ByteArray => x.data.toList) ∘ byt) = id:=by funext x; rfl
  rw [this,List.map_id]
theorem join_cells {w : World} {g n cap : Nat} (l : List (List UInt8)) (c : UInt8) (hc : ∀ (j : Nat) x,(strsV l)[j]? = some x → w.cell? ⟨g,j,none⟩ = some x) (hg : g < w.heap.size) (hn : l.length = n) (hcap : n ≤ cap) (hl : l.length ≤ 100000)
    (hlen : (Lib.join l [c]).length ≤ 140737488355328) :
    Calls Tryz.prog 61 #[.slice (some ⟨g,0,none⟩) n cap,.string ⟨#[c]⟩] w fun e w' => e = .returned (.string ⟨(Lib.join l [c]).toArray⟩) ∧ Below w.heap.size w w':=by
  subst hn
  have h:=Tryz.strings_Join g 0 cap (l.map byt) ⟨#[c]⟩ w (fun j x hx => by
    rw [Nat.zero_add]
    refine hc j _ ?_
    unfold strsV
    rw [List.getElem?_map] at hx ⊢
    obtain ⟨y,hy,rfl⟩:=Option.map_eq_some_iff.1 hx
    rw [hy]; rfl) hg (by simp; omega) (by simpa using hcap) (by rw [byt_map]; exact hlen)
  rw [byt_map,List.length_map] at h
  exact h
theorem join_blk {w : World} {g n : Nat} (l : List (List UInt8)) (c : UInt8) (h : Blk w g 9 (strsV l).toArray) (hn : l.length = n) (hl : l.length ≤ 100000) (hlen : (Lib.join l [c]).length ≤ 140737488355328) :
    Calls Tryz.prog 61 #[.slice (some ⟨g,0,none⟩) n n,.string ⟨#[c]⟩] w fun e w' => e = .returned (.string ⟨(Lib.join l [c]).toArray⟩) ∧ Below w.heap.size w w' :=
  join_cells l c (fun j x hx => by rw [h.cell j,List.getElem?_toArray]; exact hx) h.lt hn (Nat.le_refl _) hl hlen
theorem join_own {w : World} {base : Nat} {v : Value} (l : List (List UInt8)) (c : UInt8) (h : w.ownsRow base 9 1 v l.length (strsV l)) (hne : l ≠ []) (hl : l.length ≤ 100000) (hlen : (Lib.join l [c]).length ≤ 140737488355328) :
    Calls Tryz.prog 61 #[v,.string ⟨#[c]⟩] w fun e w' => e = .returned (.string ⟨(Lib.join l [c]).toArray⟩) ∧ Below w.heap.size w w':=by
  have hc:=@World.ownsRow.cells _ _ _ _ _ _ _ h
  have hlt:=h.lt
  rcases h.2 with ⟨rfl,h0⟩ | ⟨g,cap,cur,rfl,h4,h5,h6,h7,h8,h9⟩
  · exact absurd (List.length_eq_zero_iff.1 h0) hne
  · refine join_cells l c (fun j x hx => ?_) (hlt g rfl).2 rfl h6 hl hlen
    have h10:=hc rfl j x hx
    rw [show (⟨g,0,none⟩ : Addr).add j = ⟨g,0 + j,none⟩ by unfold Addr.add; split <;> simp_all,Nat.zero_add] at h10
    exact h10
end Go.Proofs.YtmalncmdfmoccaaGreatDoor
namespace Go.Proofs.YtmalncmdfmoccaaGreatDoor
open Go.RowKit
def txtR (l : List UInt8) (i : Nat) : Option (Tk × Nat):=if l.head? = some 34 then (unqS (l.drop 1)).map fun x => (⟨2,0,x.1,R4.zero,i⟩,x.2 + 1) else none
def Seek (s : ByteArray) (a k : Nat) : Prop:=(unqS (s.data.toList.drop a)).map (·.2) = (unqS (s.data.toList.drop k)).map fun p => p.2 + (k - a)
theorem Seek.step {s : ByteArray} {a k : Nat} (h : Seek s a k) (ha : a ≤ k) (hk : k < s.size) (h1 : s[k]'hk ≠ 34) : Seek s a (k + 1):=by
  have hsl : s.data.toList.length = s.size:=by rw [Array.length_toList]; rfl
  have hd : s.data.toList.drop k = s[k]'hk :: s.data.toList.drop (k + 1):=List.drop_eq_getElem_cons (by omega)
  unfold Seek at h ⊢
  rw [h,hd]
  cases hr : s.data.toList.drop (k + 1) with
  | nil => rw [unq_one,if_neg h1]; rfl
  | cons c r =>
    rw [unq_two,if_neg h1]
    cases unqS (c :: r) with
    | none => rfl
    | some y => simp; omega
theorem Seek.pair {s : ByteArray} {a k : Nat} (h : Seek s a k) (ha : a ≤ k) (hk : k + 1 < s.size) (h1 : s[k]'(by omega) = 34) (h2 : s[k + 1]'hk = 34) : Seek s a (k + 2):=by
  have hsl : s.data.toList.length = s.size:=by rw [Array.length_toList]; rfl
  have hd : s.data.toList.drop k = s[k]'(by omega) :: s[k + 1]'hk :: s.data.toList.drop (k + 2):=by
    rw [List.drop_eq_getElem_cons (by omega),List.drop_eq_getElem_cons (by omega)]
    rfl
  unfold Seek at h ⊢
  rw [h,hd,unq_two,if_pos h1,if_pos h2]
  cases unqS (s.data.toList.drop (k + 2)) with
  | none => rfl
  | some y => simp; omega
theorem Seek.last {s : ByteArray} {a k : Nat} (h : Seek s a k) (ha : a ≤ k) (hk : k < s.size) (h1 : s[k]'hk = 34) (h2 : ∀ h : k + 1 < s.size,s[k + 1]'h ≠ 34) : ∃ t,unqS (s.data.toList.drop a) = some (t,k + 1 - a):=by
  have hsl : s.data.toList.length = s.size:=by rw [Array.length_toList]; rfl
  have hu : unqS (s.data.toList.drop k) = some ([],1):=by
    have hd : s.data.toList.drop k = s[k]'hk :: s.data.toList.drop (k + 1):=List.drop_eq_getElem_cons (by omega)
    rw [hd]
    by_cases hk1 : k + 1 < s.size
    · have hd2 : s.data.toList.drop (k + 1) = s[k + 1]'hk1 :: s.data.toList.drop (k + 2):=List.drop_eq_getElem_cons (by omega)
      rw [hd2,unq_two,if_pos h1,if_neg (h2 hk1)]
    · rw [List.drop_eq_nil_of_le (by omega),unq_one,if_pos h1]
  unfold Seek at h
  rw [hu] at h
  cases hv : unqS (s.data.toList.drop a) with
  | none => rw [hv] at h; simp at h
  | some y =>
    rw [hv] at h
    simp at h
    exact ⟨y.1,by rw [show k + 1 - a = y.2 by omega]⟩
theorem Seek.out {s : ByteArray} {a : Nat} (h : Seek s a s.size) : unqS (s.data.toList.drop a) = none:=by
  have hsl : s.data.toList.length = s.size:=by rw [Array.length_toList]; rfl
  unfold Seek at h
  have hd : s.data.toList.drop s.size = []:=List.drop_eq_nil_of_le (by omega)
  rw [hd] at h
  cases hv : unqS (s.data.toList.drop a) with
  | none => rfl
  | some y => rw [hv] at h; simp [unqS] at h
end Go.Proofs.YtmalncmdfmoccaaGreatDoor
