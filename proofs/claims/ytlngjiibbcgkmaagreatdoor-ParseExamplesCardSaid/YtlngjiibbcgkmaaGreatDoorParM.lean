/- Plain: the nodes of an accepted list of tokens are such as a formula may hold. -/
import Derived.Test.YtlngjiibbcgkmaaGreatDoorParK
import Derived.Test.YtlngjiibbcgkmaaGreatDoorLexP
import Derived.Test.YtlngjiibbcgkmaaGreatDoorTreA
namespace Go.Proofs.YtlngjiibbcgkmaaGreatDoor
open Go.RowKit
theorem ok_bare {t : Tk} {n : Int} {x : List UInt8} {r : R4} (h : bareB { t with num:=n,text:=x,r:=r } = true) : n = 0 ∧ x = [] ∧ r = R4.zero:=by
 obtain ⟨a,b,c,d⟩:=r
 simp only [bareB,Bool.and_eq_true,decide_eq_true_eq,List.isEmpty_iff] at h
 obtain ⟨⟨h1,h2⟩,h3,h4,h5,h6⟩:=h
 subst h1 h2 h3 h4 h5 h6
 exact ⟨rfl,rfl,rfl⟩
theorem ok_kind {t : Tk} (h : okT t = true) : 1 ≤ t.kind ∧ t.kind ≤ 11:=by
 unfold okT at h
 repeat' split at h
 all_goals first | omega | (simp only [Bool.and_eq_true,decide_eq_true_eq] at h; omega)
theorem ok_val {t : Tk} (h : okT t = true) (h1 : 1 ≤ t.kind) (h4 : t.kind ≤ 4) : goodNd (ndVal t):=by
 obtain ⟨k,n,x,r,a⟩:=t
 simp only [] at h1 h4
 have hk : k = 1 ∨ k = 2 ∨ k = 3 ∨ k = 4:=by omega
 unfold okT at h
 rcases hk with rfl | rfl | rfl | rfl
 ·simp only [if_true,Bool.and_eq_true,decide_eq_true_eq] at h
  obtain ⟨h2,h3⟩:=h
  obtain ⟨-,rfl,-⟩:=ok_bare (t:=⟨1,n,x,r,a⟩) h3
  exact .inl ⟨1,n,[],rfl,.inl ⟨rfl,h2,rfl⟩⟩
 ·simp only [Nat.reduceEqDiff,if_false,if_true,Bool.and_eq_true,decide_eq_true_eq] at h
  obtain ⟨⟨⟨h2,h3⟩,-⟩,h5⟩:=h
  exact .inl ⟨3,0,x,rfl,.inr (.inr (.inl ⟨rfl,rfl,h3,h2⟩))⟩
 ·simp only [Nat.reduceEqDiff,if_false,if_true,Bool.and_eq_true,decide_eq_true_eq] at h
  obtain ⟨h2,h3⟩:=h
  obtain ⟨-,rfl,-⟩:=ok_bare (t:=⟨3,n,x,r,a⟩) h3
  exact .inl ⟨2,n,[],rfl,.inr (.inl ⟨rfl,h2,rfl⟩)⟩
 ·simp only [Nat.reduceEqDiff,if_false,if_true,Bool.and_eq_true,decide_eq_true_eq] at h
  obtain ⟨h2,h3⟩:=h
  obtain ⟨-,rfl,-⟩:=ok_bare (t:=⟨4,n,x,r,a⟩) h3
  exact .inl ⟨4,n,[],rfl,.inr (.inr (.inr ⟨rfl,h2,rfl⟩))⟩
theorem ok_ref {t : Tk} (h : okT t = true) (h5 : t.kind = 5) : goodNd (ndRef t.r):=by
 obtain ⟨k,n,x,r,a⟩:=t
 simp only [] at h5
 subst h5
 simp only [okT,Nat.reduceEqDiff,if_false,if_true,Bool.and_eq_true,oneB,decide_eq_true_eq] at h
 exact .inr (.inl ⟨r,rfl,h.1.1,h.1.2⟩)
theorem ok_range {t : Tk} (h : okT t = true) (h6 : t.kind = 6) : goodNd (ndRange t.r):=by
 obtain ⟨k,n,x,r,a⟩:=t
 simp only [] at h6
 subst h6
 simp only [okT,Nat.reduceEqDiff,if_false,if_true,Bool.and_eq_true,oneB,Bool.not_eq_true',decide_eq_false_iff_not] at h
 exact .inr (.inr (.inl ⟨r,rfl,h.1.1,h.1.2⟩))
theorem ok_op {t : Tk} (h : okT t = true) (h8 : t.kind = 8) : 1 ≤ t.num ∧ t.num ≤ 13:=by
 obtain ⟨k,n,x,r,a⟩:=t
 simp only [] at h8
 subst h8
 simp only [okT,Nat.reduceEqDiff,if_false,if_true,Bool.and_eq_true,decide_eq_true_eq] at h
 exact h.1
def okM : Md → Prop
 | .ops k => k ≤ 4
 | _ => True
theorem Pk.sub {m : Md} {ts u : List Tk} {ns : List Nd} {n : Nat} (h : Pk m ts u ns n) : ∀ t ∈ u,t ∈ ts:=by
 obtain ⟨c,rfl,_⟩:=h.soft
 intro t ht
 simp [ht]
theorem good_snoc {ns : List Nd} {x : Nd} (h : ∀ y ∈ ns,goodNd y) (hx : goodNd x) : ∀ y ∈ ns ++ [x],goodNd y:=by
 intro y hy
 rcases List.mem_append.1 hy with hy | hy
 ·exact h y hy
 ·simp at hy; subst hy; exact hx
theorem good_app {ns ms : List Nd} (h : ∀ y ∈ ns,goodNd y) (g : ∀ y ∈ ms,goodNd y) : ∀ y ∈ ns ++ ms,goodNd y:=by
 intro y hy
 rcases List.mem_append.1 hy with hy | hy
 ·exact h y hy
 ·exact g y hy
theorem good_cons {ms : List Nd} {x : Nd} (hx : goodNd x) (g : ∀ y ∈ ms,goodNd y) : ∀ y ∈ x :: ms,goodNd y:=by
 intro y hy
 rcases List.mem_cons.1 hy with rfl | hy
 ·exact hx
 ·exact g y hy
theorem good_bin {op : Int} (h1 : 1 ≤ op) (h2 : op ≤ 12) : goodNd (ndBin op):=.inr (.inr (.inr (.inr (.inr (.inl ⟨op,rfl,h1,h2⟩)))))
theorem good_neg : goodNd ndNeg:=.inr (.inr (.inr (.inl rfl)))
theorem good_pct : goodNd ndPct:=.inr (.inr (.inr (.inr (.inl rfl))))
theorem Pk.good {m : Md} {ts u : List Tk} {ns : List Nd} {n : Nat} (h : Pk m ts u ns n) : okM m → (∀ t ∈ ts,okT t = true) → ∀ x ∈ ns,goodNd x:=by
 induction h with
 | lv5 _ _ ih => intro _ hg; exact ih trivial hg
 | lv hk h _ ih1 ih2 =>
  intro _ hg
  exact good_app (ih1 trivial hg) (ih2 (by simp only [okM]; omega) fun t ht => hg t (h.sub t ht))
 | nil => intro _ _; simp
 | stop => intro _ _; simp
 | @op k t ts u v ns ms n m h8 hk h _ ih1 ih2 =>
  intro hm hg
  simp only [okM] at hm
  have ht:=ok_op (hg t (by simp)) h8
  have h13 : t.num ≠ 13:=by
   intro e
   rw [e] at hk
   simp [bindS] at hk
   omega
  exact good_app (ih1 trivial fun t ht => hg t (by simp [ht])) (good_cons (good_bin ht.1 (by omega)) (ih2 hm fun t ht => hg t (by simp [h.sub t ht])))
 | neg _ _ _ ih => intro _ hg; exact good_snoc (ih trivial fun t ht => hg t (by simp [ht])) good_neg
 | bare _ _ _ ih => intro _ hg; exact ih trivial hg
 | pow _ h _ _ _ ih1 ih2 =>
  intro _ hg
  exact good_app (ih1 trivial hg) (good_snoc (ih2 trivial fun t ht => hg t (h.sub t (by simp [ht]))) (good_bin (by decide) (by decide)))
 | pc _ ih =>
  intro _ hg
  refine good_app (ih trivial hg) fun y hy => ?_
  rw [(List.mem_replicate.1 hy).2]
  exact good_pct
 | val h1 h4 => intro _ hg; exact good_cons (ok_val (hg _ (by simp)) h1 h4) (by simp)
 | ref h5 => intro _ hg; exact good_cons (ok_ref (hg _ (by simp)) h5) (by simp)
 | par _ _ _ ih => intro _ hg; exact ih trivial fun t ht => hg t (by simp [ht])
 | @call t o c ts u ns n h7 hf ho h hc h1 h2 hd ih =>
  intro _ hg
  have:=fn_le t.text
  refine good_snoc (ih trivial fun t ht => hg t (by simp [ht])) (.inr (.inr (.inr (.inr (.inr (.inr ⟨_,n,rfl,by omega,this,h1,h2⟩))))))
 | argE _ _ _ ih => intro _ hg; exact ih trivial hg
 | argC _ h _ _ ih1 ih2 => intro _ hg; exact good_app (ih1 trivial hg) (ih2 trivial fun t ht => hg t (h.sub t (by simp [ht])))
 | rngE h6 => intro _ hg; exact good_cons (ok_range (hg _ (by simp)) h6) (by simp)
 | rngC h6 _ _ _ ih => intro _ hg; exact good_cons (ok_range (hg _ (by simp)) h6) (ih trivial fun t ht => hg t (by simp [ht]))
theorem Lex.len {k : Nat} {u : List UInt8} {l : List Tk} {y : List UInt8} (h : Lex k u l y) : l.length ≤ u.length:=by
 induction h with
 | nil => simp
 | blank _ ih => simp; omega
 | tok _ _ ih => simp; omega
theorem tokens_ok {L : List UInt8} {ts : List Tk} {a : Int} (h : tokensS L = (ts,a,0)) : a = 0 ∧ L.length ≤ 256 ∧ (∀ b ∈ L,plainB b = true) ∧ Lex 0 L ts []:=by
 unfold tokensS at h
 split at h
 ·simp at h
 ·rename_i h256
  split at h
  ·simp at h
  ·rename_i hf
   split at h
   ·rename_i l hl
    simp only [Prod.mk.injEq,and_true] at h
    obtain ⟨rfl,rfl⟩:=h
    refine ⟨rfl,by omega,?_,(toks_lex _ _ _ _ (Nat.le_refl _)).1 hl⟩
    intro b hb
    have:=List.findIdx?_eq_none_iff.1 hf b hb
    simpa using this
   ·simp at h
theorem tokens_good {L : List UInt8} {ts : List Tk} {a : Int} (h : tokensS L = (ts,a,0)) : ∀ t ∈ ts,okT t = true:=by
 obtain ⟨_,h1,h2,h3⟩:=tokens_ok h
 exact h3.ok (by simpa using h1) (by simpa using h2)
def formR (e : Nat) : Rs → List Nd × Int × Int
 | .bad a c => ([],a,c)
 | .ok u ns _ => if hkS u ≠ 0 then ([],(hdS e u).at_,4) else if checkS ns ≠ 0 then ([],0,checkS ns) else (ns,0,0)
def parT (l : List UInt8) (ts : List Tk) : Option Rs:=parF l.length (12 * ts.length + needM (.lv 1)) (.lv 1) ts
def formS (l : List UInt8) : List Nd × Int × Int :=
 if (tokensS l).2.2 ≠ 0 then ([],(tokensS l).2.1,(tokensS l).2.2)
 else match parT l (tokensS l).1 with
  | none => ([],0,0)
  | some r => formR l.length r
theorem form_lex {L : List UInt8} {ts : List Tk} {a e : Int} (h : tokensS L = (ts,a,e)) (he : e ≠ 0) : formS L = ([],a,e):=by
 unfold formS
 rw [h,if_pos he]
theorem form_of {L : List UInt8} {ts : List Tk} {a : Int} (h : tokensS L = (ts,a,0)) : ∃ r,parT L ts = some r ∧ formS L = formR L.length r:=by
 obtain ⟨r,hr⟩:=par_some (e:=L.length) (12 * ts.length + needM (.lv 1)) (.lv 1) ts (Nat.le_refl _) (by rintro k ⟨⟩; omega) (by simp)
 refine ⟨r,hr,?_⟩
 unfold formS
 rw [h,if_neg (by simp)]
 simp only [parT,hr]
theorem hk_pos {u : List Tk} (h : ∀ t ∈ u,okT t = true) : hkS u ≠ 0 ↔ u ≠ []:=by
 cases u with
 | nil => simp [hkS]
 | cons t u =>
  have:=ok_kind (h t (by simp))
  simp only [hkS,ne_eq,reduceCtorEq,not_false_eq_true,iff_true]
  omega
end Go.Proofs.YtlngjiibbcgkmaaGreatDoor
