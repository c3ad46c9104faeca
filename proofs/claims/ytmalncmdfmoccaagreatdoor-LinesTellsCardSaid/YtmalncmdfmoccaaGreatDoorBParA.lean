/- Contracts of Parse, package rect's and the reference's, and of the reference's Format. Plain facts on the text of a range: what is written is read as the range; what is read is a range. The contract of lex.Tokens: the walk. The parser's object: what it holds, and the contracts of its small methods. -/
import Derived.Test.YtmalncmdfmoccaaGreatDoorBRectF
import Derived.Test.YtmalncmdfmoccaaGreatDoorBCut
import Derived.Test.YtmalncmdfmoccaaGreatDoorBShelf
import Derived.Test.YtmalncmdfmoccaaGreatDoorBLexJ
import Derived.Test.YtmalncmdfmoccaaGreatDoorBOk
import Derived.Deep.DeepCutAuto
import Derived.Test.YtmalncmdfmoccaaGreatDoorBLexM
import Derived.Laws.EntriesVeiled
import Derived.Test.YtmalncmdfmoccaaGreatDoorBParP
namespace Go.Proofs.YtmalncmdfmoccaaGreatDoor
open Go.RowKit
def fromS (l : List UInt8) : List UInt8:=(Lib.cut l [58]).1
def toS (l : List UInt8) : List UInt8:=if (Lib.cut l [58]).2.2 = true then (Lib.cut l [58]).2.1 else (Lib.cut l [58]).1
def parseAB (a b : Int × Int × Int) : R4 × Int :=
  if a.2.2 = 4 ∨ b.2.2 = 4 then (R4.zero,4) else if a.2.2 ≠ 0 ∨ b.2.2 ≠ 0 then (R4.zero,3) else (⟨min a.1 b.1,min a.2.1 b.2.1,max a.1 b.1,max a.2.1 b.2.1⟩,0)
def parseR (l : List UInt8) : R4 × Int:=parseAB (parseS (fromS l)) (parseS (toS l))
theorem fmtL_two (r : R4) (hv : checkB r = true) (h : ¬ (r.c1 = r.c2 ∧ r.r1 = r.r2)) : fmtL r = (formatS r.c1 r.r1).1 ++ (58 :: (formatS r.c2 r.r2).1) ∧ (formatS r.c1 r.r1).1 ≠ (formatS r.c2 r.r2).1:=by
  obtain ⟨a1,a2,a3,a4⟩:=r
  obtain ⟨h1,h2⟩:=check_valid hv
  refine ⟨by unfold fmtL; rw [if_neg h],fun e => h ?_⟩
  have:=format_inj h1 h2 e
  exact this
theorem fmtL_one (r : R4) (h : r.c1 = r.c2 ∧ r.r1 = r.r2) : fmtL r = (formatS r.c1 r.r1).1:=by unfold fmtL; rw [if_pos h,List.append_nil]
end Go.Proofs.YtmalncmdfmoccaaGreatDoor
namespace Go.Proofs.YtmalncmdfmoccaaGreatDoor
open Go.RowKit
theorem let_58 (b : UInt8) (h : isLet b = true) : b ≠ 58:=by
  rintro rfl
  exact absurd h (by decide)
theorem dig_58 (b : UInt8) (h : isDig b = true) : b ≠ 58:=by
  rintro rfl
  exact absurd h (by decide)
theorem format_58 (c r : Int) : ∀ b ∈ (formatS c r).1,b ≠ 58:=by
  intro b hb
  cases hv : validN c r
  · rw [formatS_bad c r hv] at hb; simp at hb
  · rw [formatS_good c r hv] at hb
    rcases List.mem_append.1 hb with h | h
    · exact let_58 b (letters_let _ b h)
    · exact dig_58 b (List.all_eq_true.1 (dec_dig _) b h)
theorem cut_fmt1 (l : List UInt8) (h : ∀ b ∈ l,b ≠ 58) : Lib.cut l [58] = (l,[],false):=cut_none l fun _ _ => h _ (List.getElem_mem _)
theorem cut_fmt2 (l k : List UInt8) (h : ∀ b ∈ l,b ≠ 58) : Lib.cut (l ++ 58 :: k) [58] = (l,k,true):=by
  have:=cut_colon (l ++ 58 :: k) l.length (by simp) (fun j hj => by rw [List.getElem_append_left hj]; exact h _ (List.getElem_mem _)) (by simp)
  rw [this]
  simp
theorem parse_fmt (r : R4) (h : checkB r = true) : parseR (fmtL r) = (r,0):=by
  obtain ⟨a1,a2,a3,a4⟩:=r
  obtain ⟨h1,h2⟩:=check_valid h
  have hc:=(checkB_iff _).1 h
  simp only [] at hc
  have p1:=parse_format a1 a2 h1
  have p2:=parse_format a3 a4 h2
  unfold parseR fromS toS
  by_cases he : a1 = a3 ∧ a2 = a4
  · rw [fmtL_one _ he,cut_fmt1 _ (format_58 _ _)]
    obtain ⟨rfl,rfl⟩:=he
    simp only [Bool.false_eq_true,if_false]
    rw [p1]
    simp [parseAB]
  · rw [(fmtL_two _ h he).1,cut_fmt2 _ _ (format_58 _ _)]
    simp only [if_true]
    rw [p1,p2]
    simp [parseAB]
    omega
end Go.Proofs.YtmalncmdfmoccaaGreatDoor
namespace Go.Proofs.YtmalncmdfmoccaaGreatDoor
open Go.RowKit
def ruleR : Nat → List UInt8 → Nat → Option (Tk × Nat)
  | 0 => numR
  | 1 => txtR
  | 2 => wordR
  | 3 => errR
  | _ => signR
def NoneUpTo (S : List UInt8) (k j : Nat) : Prop:=∀ i,i < j → ruleR i (S.drop k) k = none
theorem NoneUpTo.next {S : List UInt8} {k j : Nat} (h : NoneUpTo S k j) (h1 : ruleR j (S.drop k) k = none) : NoneUpTo S k (j + 1):=by
  intro i hi
  rcases Nat.lt_succ_iff_lt_or_eq.1 hi with hi | rfl
  · exact h i hi
  · exact h1
end Go.Proofs.YtmalncmdfmoccaaGreatDoor
namespace Go.Proofs.YtmalncmdfmoccaaGreatDoor
open Go.RowKit
def ndRow (n : Nd) : List Value:=[.int .u8 n.kind,.int .u8 n.vk,.int .i64 n.vn,.string ⟨n.vt.toArray⟩,.int .i64 n.r.c1,.int .i64 n.r.r1,.int .i64 n.r.c2,.int .i64 n.r.r2,.int .i64 n.op,.int .u8 n.fn,.int .i64 (n.n : Nat)]
def ndCells (l : List Nd) : List Value:=l.flatMap ndRow
structure TokAt (w : World) (a : Option Addr) (c : Nat) (ts : List Tk) : Prop where
  le : ts.length ≤ c
  cap : c ≤ 9223372036854775807
  at_ : ts ≠ [] → ∃ b o,a = some ⟨b,o,none⟩ ∧ b < w.heap.size ∧ ∀ i t,ts[i]? = some t → ∀ j v,(tkRow t)[j]? = some v → w.cell? ⟨b,o + (i * 8 + j),none⟩ = some v
theorem TokAt.last (w : World) (a : Option Addr) : TokAt w a 0 []:=⟨Nat.le_refl _,Nat.zero_le _,fun h => absurd rfl h⟩
theorem TokAt.next {w : World} {b o c : Nat} {t : Tk} {ts : List Tk} (h : TokAt w (some ⟨b,o,none⟩) c (t :: ts)) : TokAt w (some ⟨b,o + 8,none⟩) (c - 1) ts:=by
  refine ⟨by have:=h.le; simp at this; omega,by have:=h.cap; omega,fun _ => ?_⟩
  obtain ⟨b',o',e,hb,hc⟩:=h.at_ (by simp)
  simp at e
  obtain ⟨rfl,rfl⟩:=e
  refine ⟨b,o + 8,rfl,hb,fun i u hi j v hj => ?_⟩
  have:=hc (i + 1) u (by simpa using hi) j v hj
  rw [show o + 8 + (i * 8 + j) = o + ((i + 1) * 8 + j) by omega]
  exact this
theorem OkRow.set_ {w0 w : World} {ps : List Pers} {e : TypeId} {size n b i : Nat} {t : TypeId} {cs xs : List Value} {u v : Value} (h : OkRow w0 (kVar b t cs :: ps) e size v n xs w) (hb : w0.heap.size ≤ b) (hf : ∀ x ∈ ps,x.far (some b)) :
    OkRow w0 (kVar b t (cs.set i u) :: ps) e size v n xs (w.setCell ⟨b,i,none⟩ u):=by
  have hne : some b ≠ v.ownBlock:=h.far _ (List.mem_cons_self ..)
  refine ⟨h.ok.set_ hb hf,h.own.kept (only_set b i u) ?_,fun x hx => ?_⟩
  · cases hv : v.ownBlock with
    | none => exact .inl rfl
    | some k =>
      right
      intro e9
      exact hne (by rw [hv]; exact e9.symm)
  · rcases List.mem_cons.1 hx with rfl | hx
    · exact hne
    · exact h.far x (List.mem_cons_of_mem _ hx)
def St (w1 : World) (ps : List Pers) (pb en : Nat) (ts : List Tk) (ns : List Nd) (w : World) : Prop :=
  w1.heap.size ≤ pb ∧ (∀ x ∈ ps,x.far (some pb)) ∧ ∃ la c ov,TokAt w1 la c ts ∧ OkRow w1 (kVar pb 274 [.slice la ts.length c,.int .i64 (en : Int),ov] :: ps) 310 11 ov ns.length (ndCells ns) w
section
variable {w1 w w' : World} {ps : List Pers} {pb en : Nat} {ts : List Tk} {ns : List Nd}
theorem St.below (h : St w1 ps pb en ts ns w) (hb : Below w.heap.size w w') : St w1 ps pb en ts ns w':=by
  obtain ⟨h1,h2,la,c,ov,h3,h4⟩:=h
  exact ⟨h1,h2,la,c,ov,h3,h4.below hb⟩
theorem OkRow.swap {w0 : World} {x y : Pers} {ps : List Pers} {e : TypeId} {size n : Nat} {v : Value} {xs : List Value} (h : OkRow w0 (x :: y :: ps) e size v n xs w) : OkRow w0 (y :: x :: ps) e size v n xs w :=
  h.drop _ (by intro z hz; simp at hz ⊢; rcases hz with h | h | h <;> simp [h])
theorem St.alloc (h : St w1 ps pb en ts ns w) (t : TypeId) (cs : List Value) : St w1 (kBlk w.heap.size t cs :: ps) pb en ts ns (w.alloc (.cells cs.toArray t)):=by
  obtain ⟨h1,h2,la,c,ov,h3,h4⟩:=h
  have hlt : pb < w.heap.size:=by
    have:=h4.ok.sees
    exact this.1.1.1
  refine ⟨h1,fun x hx => ?_,la,c,ov,h3,(h4.alloc w.heap.size t cs rfl).swap⟩
  rcases List.mem_cons.1 hx with rfl | hx
  · show some w.heap.size ≠ some pb
    simp; omega
  · exact h2 x hx
theorem St.alloc_obj (h : St w1 ps pb en ts ns w) (o : Obj) : St w1 ps pb en ts ns (w.alloc o):=h.below ((Below.refl _ _).alloc (Nat.le_refl _) _)
theorem St.tail {x : Pers} (h : St w1 (x :: ps) pb en ts ns w) : St w1 ps pb en ts ns w:=by
  obtain ⟨h1,h2,la,c,ov,h3,h4⟩:=h
  exact ⟨h1,fun y hy => h2 y (List.mem_cons_of_mem _ hy),la,c,ov,h3,h4.drop _ (by intro z hz; simp at hz ⊢; rcases hz with h | h <;> simp [h])⟩
theorem St.drop (h : St w1 ps pb en ts ns w) (qs : List Pers) (hq : ∀ x ∈ qs,x ∈ ps) : St w1 qs pb en ts ns w:=by
  obtain ⟨h1,h2,la,c,ov,h3,h4⟩:=h
  exact ⟨h1,fun y hy => h2 y (hq y hy),la,c,ov,h3,h4.drop _ (by intro z hz; simp at hz ⊢; rcases hz with h | h; exact .inl h; exact .inr (hq _ h))⟩
theorem St.sees (h : St w1 ps pb en ts ns w) : pb < w.heap.size ∧ Go.Proofs.YtmalncmdfmoccaaGreatDoor.sees ps w:=by
  obtain ⟨h1,h2,la,c,ov,h3,h4⟩:=h
  have:=h4.ok.sees
  exact ⟨this.1.1.1,this.2⟩
theorem St.bel (h : St w1 ps pb en ts ns w) : Below w1.heap.size w1 w:=by
  obtain ⟨h1,h2,la,c,ov,h3,h4⟩:=h
  exact h4.ok.bel
theorem St.lt (h : St w1 ps pb en ts ns w) : pb < w.heap.size:=h.sees.1
end
end Go.Proofs.YtmalncmdfmoccaaGreatDoor
