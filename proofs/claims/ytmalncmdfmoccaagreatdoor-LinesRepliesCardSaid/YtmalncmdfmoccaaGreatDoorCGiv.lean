/- Contracts of tree.below and tree.fits. Plain: the text of a token is read as the token. No program stands here. Plain: values and slices of flat types that were handed in: their cells. No program stands here. Plain: the texts of ranges and of numbers are read as the tokens. No program stands here. Plain: the texts of numbers are read as the tokens. No program stands here. Plain: what dec.Parse makes of a number's text. No program stands here. -/
import Derived.Test.YtmalncmdfmoccaaGreatDoorCEqV
import Derived.Test.YtmalncmdfmoccaaGreatDoorCParK
import Derived.Test.YtmalncmdfmoccaaGreatDoorCShP
import Derived.Deep.Slices
import Derived.ChangeArms
import Derived.Test.YtmalncmdfmoccaaGreatDoorCLexI
namespace Go.Proofs.YtmalncmdfmoccaaGreatDoor
open Go.RowKit
def RowsAt (w : World) (a : Option Addr) (s : Nat) (l : List (List Value)) : Prop :=
  l ≠ [] → ∃ b o,a = some ⟨b,o,none⟩ ∧ b < w.heap.size ∧ ∀ i r,l[i]? = some r → ∀ j v,r[j]? = some v → w.cell? ⟨b,o + (i * s + j),none⟩ = some v
theorem RowsAt.below {w w' : World} {a : Option Addr} {s : Nat} {l : List (List Value)} (h : RowsAt w a s l) (hb : Below w.heap.size w w') : RowsAt w' a s l:=by
  intro hl
  obtain ⟨b,o,e,h1,h2⟩:=h hl
  exact ⟨b,o,e,Nat.lt_of_lt_of_le h1 hb.size,fun i r hi j v hj => (hb.cell h1).trans (h2 i r hi j v hj)⟩
end Go.Proofs.YtmalncmdfmoccaaGreatDoor
namespace Go.Proofs.YtmalncmdfmoccaaGreatDoor
open Go.RowKit
def sepB (b : UInt8) : Bool:=[37,38,41,42,43,44,45,47,60,61,62,94].contains b
def Sep (l : List UInt8) : Prop:=∀ b r,l = b :: r → sepB b = true
theorem sep_no : ∀ b : UInt8,sepB b = true → isWrd b = false ∧ b ≠ 34 ∧ b ≠ 40 ∧ b ≠ 46 ∧ b ≠ 58 ∧ isDig b = false:=by
  intro b h
  unfold sepB at h
  simp only [List.contains_eq_mem,List.mem_cons,List.not_mem_nil,or_false,decide_eq_true_eq] at h
  rcases h with rfl | rfl | rfl | rfl | rfl | rfl | rfl | rfl | rfl | rfl | rfl | rfl <;> decide
theorem Sep.stop {r : List UInt8} (h : Sep r) : stops isWrd r = true:=by
  cases r with
  | nil => rfl
  | cons b r => simp [stops,(sep_no b (h b r rfl)).1]
end Go.Proofs.YtmalncmdfmoccaaGreatDoor
namespace Go.Proofs.YtmalncmdfmoccaaGreatDoor
open Go.RowKit
inductive Lf
  | int (k : IntKind)
  | str
  | bool
def Lf.ok : Lf → Value → Prop
  | .int k,v => ∃ n,v = .int k n ∧ (Lit.int k n).wf = true
  | .str,v => ∃ s : ByteArray,v = .string s ∧ s.size ≤ maxLen
  | .bool,v => ∃ b,v = .bool b
def OkL : List Lf → List Value → Prop
  | [],[] => True
  | l :: ls,v :: vs => l.ok v ∧ OkL ls vs
  | _,_ => False
theorem OkL.app : ∀ {a b : List Lf} {u v : List Value},OkL a u → OkL b v → OkL (a ++ b) (u ++ v)
  | [],_,[],_,_,h => h
  | _ :: _,_,_ :: _,_,⟨h1,h2⟩,h => ⟨h1,OkL.app h2 h⟩
theorem OkL.len : ∀ {a : List Lf} {u : List Value},OkL a u → u.length = a.length
  | [],[],_ => rfl
  | _ :: _,_ :: _,⟨_,h⟩ => by rw [List.length_cons,List.length_cons,OkL.len h]
def offs : Nat → List (Field × List Lf) → Prop
  | _,[] => True
  | n,p :: ps => p.1.offset = n ∧ offs (n + p.2.length) ps
inductive Flat (P : Program) : TypeId → List Lf → Prop
  | int {t : TypeId} {k : IntKind} (h : P.underlying t = some (.int k)) : Flat P t [.int k]
  | str {t : TypeId} (h : P.underlying t = some .string) : Flat P t [.str]
  | bool {t : TypeId} (h : P.underlying t = some .bool) : Flat P t [.bool]
  | struct {t : TypeId} {fs : Array Field} (ps : List (Field × List Lf)) (h : P.underlying t = some (.struct fs)) (hp : ps.map (·.1) = fs.toList) (ho : offs 0 ps) (hf : ∀ p ∈ ps,Flat P p.1.type p.2) (hc : ∀ p ∈ ps,P.cellsOf p.1.type = p.2.length)
      (hn : P.cellsOf t = (ps.flatMap (·.2)).length) : Flat P t (ps.flatMap (·.2))
def allF (P : Program) : List Field → List (List Lf) → Prop
  | [],[] => True
  | f :: fs,l :: ls => (Flat P f.type l ∧ P.cellsOf f.type = l.length) ∧ allF P fs ls
  | _,_ => False
theorem allF.zip {P : Program} : ∀ {fs : List Field} {ls : List (List Lf)},allF P fs ls → (fs.zip ls).map (·.1) = fs ∧ (∀ p ∈ fs.zip ls,Flat P p.1.type p.2 ∧ P.cellsOf p.1.type = p.2.length) ∧ (fs.zip ls).flatMap (·.2) = ls.flatten
  | [],[],_ => ⟨rfl,(fun p hp => by cases hp),rfl⟩
  | f :: fs,l :: ls,⟨h1,h2⟩ => by
    obtain ⟨a,b,c⟩:=allF.zip h2
    refine ⟨by rw [List.zip_cons_cons,List.map_cons,a],fun p hp => ?_,by rw [List.zip_cons_cons,List.flatMap_cons,c,List.flatten_cons]⟩
    rw [List.zip_cons_cons] at hp
    rcases List.mem_cons.1 hp with rfl | hp
    · exact h1
    · exact b p hp
theorem flat_struct {P : Program} {t : TypeId} {fs : Array Field} (ls : List (List Lf)) (h : P.underlying t = some (.struct fs)) (hall : allF P fs.toList ls) (ho : offs 0 (fs.toList.zip ls)) (hn : P.cellsOf t = ls.flatten.length) : Flat P t ls.flatten:=by
  obtain ⟨a,b,c⟩:=hall.zip
  have:=Flat.struct (fs.toList.zip ls) h a ho (fun p hp => (b p hp).1) (fun p hp => (b p hp).2) (by rw [c]; exact hn)
  rwa [c] at this
theorem flat_open {H : Type} {enc : TypeId × Value → H} {P : Program} {w : World} {base : Nat} {spare : Nat → Bool} {held : Bool} {t : TypeId} {ls : List Lf} (h : Flat P t ls) : ∀ {fuel : Nat} {cs : List Value} {x : DataW H × List MemPlace},DataW.trod enc P w base spare held fuel t cs = some x → OkL ls cs:=by
  induction h with
  | int h =>
    intro fuel cs x hx
    obtain ⟨n,rfl,-,hw⟩:=DataW.trod_int h hx
    exact ⟨⟨n,rfl,hw⟩,trivial⟩
  | str h =>
    intro fuel cs x hx
    obtain ⟨s,rfl,-,hw⟩:=DataW.trod_string h hx
    exact ⟨⟨s,rfl,hw⟩,trivial⟩
  | bool h =>
    intro fuel cs x hx
    obtain ⟨b,rfl,-⟩:=DataW.trod_bool h hx
    exact ⟨⟨b,rfl⟩,trivial⟩
  | @struct t fs ps h hp ho hf hc hn ih =>
    intro fuel cs x hx
    obtain ⟨xs,k,-,-,hlen,hxl,hfs⟩:=DataW.trod_struct h hx
    have hfs2 : ∀ (i : Nat) (p : Field × List Lf),ps[i]? = some p → ∃ y,DataW.trod enc P w base spare held k p.1.type ((cs.drop p.1.offset).take p.2.length) = some y:=by
      intro i p hi
      have h1 : fs[i]? = some p.1:=by
        have : (ps.map (·.1))[i]? = some p.1:=by rw [List.getElem?_map,hi]; rfl
        rw [hp] at this
        simpa using this
      have h2:=hfs i p.1 h1
      rw [hc p (List.mem_of_getElem? hi)] at h2
      have h3 : i < xs.length:=by
        rw [hxl]
        exact (Array.getElem?_eq_some_iff.1 h1).1
      exact ⟨_,h2.trans (List.getElem?_eq_getElem h3)⟩
    have key : ∀ (qs : List (Field × List Lf)) (n : Nat),(∀ p ∈ qs,p ∈ ps) → offs n qs → (cs.drop n).length = (qs.flatMap (·.2)).length → OkL (qs.flatMap (·.2)) (cs.drop n):=by
      intro qs
      induction qs with
      | nil =>
        intro n _ _ hl
        have : cs.drop n = []:=List.length_eq_zero_iff.1 hl
        rw [this]; trivial
      | cons p qs ihq =>
        intro n hm ho hl
        obtain ⟨h1,h2⟩:=ho
        have hpm:=hm p (by simp)
        obtain ⟨i,hi⟩:=List.getElem?_of_mem hpm
        obtain ⟨y,hy⟩:=hfs2 i p hi
        rw [h1] at hy
        have e1:=ih p hpm hy
        rw [List.flatMap_cons,List.length_append] at hl
        have e2:=ihq (n + p.2.length) (fun q hq => hm q (by simp [hq])) h2 (by rw [List.length_drop] at hl ⊢; omega)
        rw [List.flatMap_cons]
        have e3 : cs.drop n = (cs.drop n).take p.2.length ++ cs.drop (n + p.2.length):=by
          rw [← List.drop_drop,List.take_append_drop]
        rw [e3]
        exact e1.app e2
    have:=key ps 0 (fun _ h => h) ho (by rw [List.drop_zero,hlen,hn])
    rwa [List.drop_zero] at this
theorem spot_none {w : World} {a : Addr} {v : Value} (h : w.cell? (a.add 0) = some v) : a.spot = none:=by
  have hs:=World.cell?_spot h
  obtain ⟨b,o,sp⟩:=a
  simpa [Addr.add] using hs
theorem rows_given {H : Type} {enc : TypeId × Value → H} {P : Program} {w : World} {base : Nat} {spare : Nat → Bool} {held : Bool} {fuel : Nat} {t e : TypeId} {ls : List Lf} (ht : P.underlying t = some (.slice e)) (he : Flat P e ls) (hc : P.cellsOf e = ls.length) (hpos : 0 < ls.length) {A : Option Addr} {n c : Nat} {x : DataW H × List MemPlace}
    (h : DataW.trod enc P w base spare held fuel t (Value.slice A n c).cells.toList = some x) : ∃ rows : List (List Value),rows.length = n ∧ RowsAt w A ls.length rows ∧ (∀ r ∈ rows,OkL ls r) ∧ n ≤ c ∧ c ≤ maxLen:=by
  rcases Go.Deep.open_slice ht h with ⟨hcs,-⟩ | ⟨a,len,cap,m,k,D,Pl,hcs,hb,hl,hcm,hm,-,hi⟩
  · simp [Value.cells] at hcs
    obtain ⟨rfl,rfl,rfl⟩:=hcs
    exact ⟨[],rfl,fun h => absurd rfl h,fun r hr => (by cases hr),Nat.le_refl _,(by decide : 0 ≤ maxLen)⟩
  · simp [Value.cells] at hcs
    obtain ⟨rfl,rfl,rfl⟩:=hcs
    rw [hc] at hi
    have hex : ∃ f : Nat → List Value,∀ i,i < n → OkL ls (f i) ∧ ∀ j v,(f i)[j]? = some v → w.cell? (a.add (i * ls.length + j)) = some v:=by
      refine ⟨fun i => if hin : i < n then (hi i (by rw [hm]; split <;> omega)).choose else [],fun i hin => ?_⟩
      simp only [dif_pos hin]
      have hsp:=(hi i (by rw [hm]; split <;> omega)).choose_spec
      generalize (hi i (by rw [hm]; split <;> omega)).choose = cs at hsp
      obtain ⟨h1,h2⟩:=hsp
      obtain ⟨-,hlen,hat⟩:=World.cells?_some h1
      refine ⟨flat_open he h2,fun j v hj => ?_⟩
      have hjl : j < ls.length:=by rw [← hlen]; exact (List.getElem?_eq_some_iff.1 hj).1
      rw [← add_add,hat j hjl]
      exact hj
    obtain ⟨f,hf⟩:=hex
    refine ⟨(List.range n).map f,by simp,fun hne => ?_,fun r hr => ?_,by omega,hcm⟩
    · have hn : 0 < n:=by
        rcases Nat.eq_zero_or_pos n with rfl | h0
        · simp at hne
        · exact h0
      obtain ⟨h1,h2⟩:=hf 0 hn
      have h3 : 0 < (f 0).length:=by rw [h1.len]; exact hpos
      have h4:=h2 0 _ (List.getElem?_eq_getElem h3)
      have hb:=World.block_lt_of_cell? w _ h4
      rw [block_add] at hb
      rw [Nat.zero_mul,Nat.zero_add] at h4
      have hsp:=spot_none h4
      obtain ⟨b,o,sp⟩:=a
      have hsp : sp = none:=hsp
      subst hsp
      refine ⟨b,o,rfl,hb,fun i r hir j v hj => ?_⟩
      obtain ⟨hil,rfl⟩:=List.getElem?_eq_some_iff.1 hir
      rw [List.length_map,List.length_range] at hil
      rw [List.getElem_map,List.getElem_range] at hj
      have h9:=(hf i hil).2 j v hj
      rwa [show (⟨b,o,none⟩ : Addr).add (i * ls.length + j) = ⟨b,o + (i * ls.length + j),none⟩ by unfold Addr.add; split <;> simp_all] at h9
    · obtain ⟨i,hir,rfl⟩:=List.mem_map.1 hr
      exact (hf i (List.mem_range.1 hir)).1
end Go.Proofs.YtmalncmdfmoccaaGreatDoor
namespace Go.Proofs.YtmalncmdfmoccaaGreatDoor
open Go.RowKit
open Go.Lib (decDigits)
theorem Sep.colon {r : List UInt8} (h : Sep r) : secondS r = none:=by
  cases r with
  | nil => rfl
  | cons b r => rw [secondS,if_neg (sep_no b (h b r rfl)).2.2.2.2.1]
end Go.Proofs.YtmalncmdfmoccaaGreatDoor
namespace Go.Proofs.YtmalncmdfmoccaaGreatDoor
open Go.RowKit
open Go.Lib (decDigits)
end Go.Proofs.YtmalncmdfmoccaaGreatDoor
namespace Go.Proofs.YtmalncmdfmoccaaGreatDoor
open Go.RowKit
open Go.Lib (decDigits)
end Go.Proofs.YtmalncmdfmoccaaGreatDoor
