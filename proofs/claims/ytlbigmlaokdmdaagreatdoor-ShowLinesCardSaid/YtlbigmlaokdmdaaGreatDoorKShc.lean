/- Plain: the outline's lines begin with no blank of their own. No program stands here. Plain: the outline's deepest line. No program stands here. Plain: what stands directly below a node; texts and outlines node by node. No program stands here. Plain: what ShowLines says of an outline. No program stands here. -/
import Derived.Test.YtlbigmlaokdmdaaGreatDoorKShT
namespace Go.Proofs.YtlbigmlaokdmdaaGreatDoor
open Go.RowKit
theorem tok_first {t : Tk} (h : OkC t) : ∃ b r,tkT t = b :: r ∧ b ≠ 32:=by
 obtain ⟨y,hy⟩ : ∃ y,After t y:=by
  by_cases h7 : t.kind = 7
  ·exact ⟨[40],fun g => by omega,fun _ => ⟨[],rfl⟩,fun g => by omega⟩
  ·exact ⟨[],fun _ b r e => (by cases e),fun g => absurd g h7,fun _ _ b r e => (by cases e)⟩
 obtain ⟨g,hn⟩:=tok_of h 0 y hy
 cases hx : tkT t with
 | nil => exact absurd hx hn
 | cons b r =>
  rw [hx] at g
  exact ⟨b,r,rfl,(tok_start g).2.2⟩
theorem own_first {n : Nd} (h : NdC n) : ∃ b r,ownO n = b :: r ∧ b ≠ 32:=by
 cases h with
 | num m h0 h1 => exact tok_first (.num m 0 h0 h1)
 | yes => exact tok_first (.yes 0)
 | no => exact tok_first (.no 0)
 | text s hp => exact tok_first (.text s 0 hp)
 | err c h1 h5 => exact tok_first (.err c 0 h1 h5)
 | ref c r h => exact tok_first (.ref c r 0 h)
 | rng r h hn => exact tok_first (.rng r 0 h hn)
 | neg => exact ⟨110,_,rfl,by decide⟩
 | pct => exact ⟨112,_,rfl,by decide⟩
 | bin op h1 h12 => exact tok_first (.op op 0 h1 (by omega))
 | call fn k h1 h50 ha hb => exact tok_first (.name _ 0 (name_fn fn h1 h50).2)
theorem own_walk (P : List UInt8 → Prop) : ∀ (l : List Nd) (es : List Ol),(∀ n ∈ l,P (ownO n)) → (∀ e ∈ es,∀ x ∈ e,P x.2) → ∀ e ∈ olW l es,∀ x ∈ e,P x.2
 | [],_,_,h => h
 | n :: l,es,hl,h => by
  rw [olW]
  refine own_walk P l _ (fun m hm => hl m (by simp [hm])) fun e he => ?_
  rcases List.mem_append.1 he with he | he
  ·exact h e (List.mem_of_mem_take he)
  ·rw [List.mem_singleton] at he
   subst he
   intro x hx
   unfold comO at hx
   rcases List.mem_cons.1 hx with rfl | hx
   ·exact hl n (by simp)
   ·obtain ⟨e2,h2,hx⟩:=List.mem_flatMap.1 hx
    unfold downO at hx
    obtain ⟨z,hz,rfl⟩:=List.mem_map.1 hx
    exact h e2 (List.mem_of_mem_drop h2) z hz
theorem out_first (t : List Nd) (ht : ∀ n ∈ t,NdC n) : ∀ x ∈ outS t,∃ b r,x.2 = b :: r ∧ b ≠ 32:=by
 intro x hx
 have:=own_walk (fun l => ∃ b r,l = b :: r ∧ b ≠ 32) t [] (fun n hn => own_first (ht n hn)) (by simp)
 unfold outS at hx
 cases ho : olW t [] with
 | nil => rw [ho] at hx; cases hx
 | cons e r => rw [ho] at hx this; exact this e (by simp) x hx
end Go.Proofs.YtlbigmlaokdmdaaGreatDoor
namespace Go.Proofs.YtlbigmlaokdmdaaGreatDoor
open Go.RowKit
def hiO (l : Ol) : Nat:=l.foldl (fun d x => max d x.1) 0
theorem hi_fold (l : Ol) (d : Nat) : l.foldl (fun d x => max d x.1) d = max d (hiO l):=by
 induction l generalizing d with
 | nil => unfold hiO; simp
 | cons x l ih =>
  unfold hiO
  rw [List.foldl_cons,List.foldl_cons,ih,ih (max 0 x.1)]
  omega
theorem hi_cons (x : Nat × List UInt8) (l : Ol) : hiO (x :: l) = max x.1 (hiO l):=by
 show l.foldl (fun d x => max d x.1) (max 0 x.1) = _
 rw [hi_fold]; omega
theorem hi_app (a b : Ol) : hiO (a ++ b) = max (hiO a) (hiO b):=by
 unfold hiO
 rw [List.foldl_append,hi_fold]
 rfl
theorem hi_down : ∀ l : Ol,l ≠ [] → hiO (downO l) = hiO l + 1
 | [],h => absurd rfl h
 | [x],_ => by show max 0 (x.1 + 1) = max 0 x.1 + 1; omega
 | x :: y :: l,_ => by
  have ih:=hi_down (y :: l) (by simp)
  show hiO ((x.1 + 1,x.2) :: downO (y :: l)) = _
  rw [hi_cons,ih,hi_cons x (y :: l)]
  show max (x.1 + 1) _ = _
  omega
def topO (es : List Ol) : Nat:=es.foldl (fun d e => max d (hiO e + 1)) 0
theorem top_fold (es : List Ol) (d : Nat) : es.foldl (fun d e => max d (hiO e + 1)) d = max d (topO es):=by
 induction es generalizing d with
 | nil => unfold topO; simp
 | cons e es ih =>
  unfold topO
  rw [List.foldl_cons,List.foldl_cons,ih,ih (max 0 (hiO e + 1))]
  omega
theorem top_cons (e : Ol) (es : List Ol) : topO (e :: es) = max (hiO e + 1) (topO es):=by
 show es.foldl (fun d e => max d (hiO e + 1)) (max 0 (hiO e + 1)) = _
 rw [top_fold]; omega
theorem hi_com (n : Nd) (es : List Ol) (h : ∀ e ∈ es,e ≠ []) : hiO (comO n es) = topO es:=by
 unfold comO
 rw [hi_cons]
 show max 0 _ = _
 rw [Nat.zero_max]
 induction es with
 | nil => rfl
 | cons e es ih =>
  rw [List.flatMap_cons,hi_app,hi_down e (h e (by simp)),ih fun x hx => h x (by simp [hx]),top_cons]
theorem deep_fold : ∀ (st : List Pt) (es : List Ol) (d : Nat),st.map (·.depth) = es.map (fun e => hiO e + 1) → st.foldl (fun d x => max d (x.depth + 1)) (d + 1) = es.foldl (fun d e => max d (hiO e + 1)) d + 1
 | [],[],_,_ => rfl
 | [],_ :: _,_,h => by cases h
 | _ :: _,[],_,h => by cases h
 | p :: st,e :: es,d,h => by
  rw [List.map_cons,List.map_cons] at h
  obtain ⟨h1,h2⟩:=List.cons.inj h
  rw [List.foldl_cons,List.foldl_cons,h1,show max (d + 1) (hiO e + 1 + 1) = max d (hiO e + 1) + 1 by omega]
  exact deep_fold st es _ h2
theorem deep_walk (t : List Nd) : ∀ (l : List Nd) (i : Nat) (st st2 : List Pt) (es : List Ol),walkW t i l st = .ok st2 → st.map (·.depth) = es.map (fun e => hiO e + 1) → (∀ e ∈ es,e ≠ []) →
  st2.map (·.depth) = (olW l es).map (fun e => hiO e + 1)
 | [],_,st,st2,es,h,hd,_ => by rw [walkW] at h; injection h with h; rw [← h]; exact hd
 | n :: l,i,st,st2,es,h,hd,hn => by
  have hlen : st.length = es.length:=by have:=congrArg List.length hd; rwa [List.length_map,List.length_map] at this
  rw [walkW] at h
  cases hs : stepW t st i n with
  | error c => rw [hs] at h; cases h
  | ok s1 =>
   rw [hs] at h
   unfold stepW at hs
   split at hs
   ·cases hs
   split at hs
   ·cases hs
   split at hs
   ·cases hs
   injection hs with hs
   rw [olW]
   refine deep_walk t l (i + 1) s1 st2 _ h ?_ fun e he => ?_
   ·rw [← hs,List.map_append,List.map_append,List.map_take,List.map_take,hd,hlen]
    congr 1
    show [deepS (st.drop (es.length - belowS n))] = [hiO (comO n _) + 1]
    rw [hi_com n _ fun e he => hn e (List.mem_of_mem_drop he)]
    unfold deepS topO
    rw [deep_fold _ (es.drop (es.length - belowS n)) 0 (by rw [List.map_drop,List.map_drop,hd])]
   ·rcases List.mem_append.1 he with he | he
    ·exact hn e (List.mem_of_mem_take he)
    ·rw [List.mem_singleton] at he; subst he; simp [comO]
theorem out_deep (t : List Nd) (p : Pt) (h : walkW t 0 t [] = .ok [p]) : p.depth = hiO (outS t) + 1:=by
 have:=deep_walk t t 0 [] [p] [] h rfl (by simp)
 unfold outS
 cases ho : olW t [] with
 | nil => rw [ho] at this; cases this
 | cons e r =>
  rw [ho] at this
  exact (List.cons.inj this).1
end Go.Proofs.YtlbigmlaokdmdaaGreatDoor
namespace Go.Proofs.YtlbigmlaokdmdaaGreatDoor
open Go.RowKit
def rootsW : List Nd → Nat → List Nat → List Nat
 | [],_,rs => rs
 | n :: l,i,rs => rootsW l (i + 1) (rs.take (rs.length - belowS n) ++ [i])
def rootsAt (t : List Nd) (i : Nat) : List Nat:=rootsW (t.take i) 0 []
def kidsOf (rs : List Nat) (n : Nd) : List Nat:=rs.drop (rs.length - belowS n)
def kidsS (t : List Nd) (i : Nat) : List Nat:=match t[i]? with
 | none => []
 | some n => kidsOf (rootsAt t i) n
theorem roots_snoc : ∀ (l : List Nd) (n : Nd) (i : Nat) (rs : List Nat),rootsW (l ++ [n]) i rs = (rootsW l i rs).take ((rootsW l i rs).length - belowS n) ++ [i + l.length]
 | [],n,i,rs => rfl
 | m :: l,n,i,rs => by
  show rootsW (l ++ [n]) (i + 1) _ = _
  rw [roots_snoc l n (i + 1)]
  show _ = (rootsW l (i + 1) _).take _ ++ [i + (l.length + 1)]
  rw [show i + 1 + l.length = i + (l.length + 1) by omega]
  rfl
theorem roots_step {t : List Nd} {i : Nat} {n : Nd} (h : t[i]? = some n) : rootsAt t (i + 1) = (rootsAt t i).take ((rootsAt t i).length - belowS n) ++ [i]:=by
 obtain ⟨hi,hn⟩:=List.getElem?_eq_some_iff.1 h
 unfold rootsAt
 rw [List.take_succ_eq_append_getElem hi,hn,roots_snoc,List.length_take,Nat.min_eq_left (by omega),Nat.zero_add]
theorem kids_eq {t : List Nd} {i : Nat} {n : Nd} (h : t[i]? = some n) : kidsS t i = (rootsAt t i).drop ((rootsAt t i).length - belowS n):=by
 unfold kidsS
 rw [h]; rfl
theorem roots_lt (t : List Nd) : ∀ i,(rootsAt t i).Pairwise (· < ·) ∧ ∀ r ∈ rootsAt t i,r < i:=by
 intro i
 induction i with
 | zero => exact ⟨.nil,by intro r hr; cases hr⟩
 | succ i ih =>
  cases h : t[i]? with
  | none =>
   have hl : t.length ≤ i:=List.getElem?_eq_none_iff.1 h
   have e : rootsAt t (i + 1) = rootsAt t i:=by unfold rootsAt; rw [List.take_of_length_le hl,List.take_of_length_le (by omega)]
   rw [e]
   exact ⟨ih.1,fun r hr => Nat.lt_succ_of_lt (ih.2 r hr)⟩
  | some n =>
   rw [roots_step h]
   refine ⟨List.pairwise_append.2 ⟨ih.1.sublist (List.take_sublist _ _),List.pairwise_singleton _ _,fun a ha b hb => ?_⟩,fun r hr => ?_⟩
   ·rw [List.mem_singleton] at hb; subst hb
    exact ih.2 a (List.mem_of_mem_take ha)
   ·rcases List.mem_append.1 hr with hr | hr
    ·exact Nat.lt_succ_of_lt (ih.2 r (List.mem_of_mem_take hr))
    ·rw [List.mem_singleton] at hr; omega
theorem kids_lt (t : List Nd) (i : Nat) : ∀ k ∈ kidsS t i,k < i:=by
 intro k hk
 unfold kidsS at hk
 split at hk
 ·cases hk
 ·exact (roots_lt t i).2 k (List.mem_of_mem_drop hk)
def txAt (t : List Nd) (i : Nat) : Tx:=((txW (t.take (i + 1)) []).getLast?).getD ([],8)
theorem txW_snoc : ∀ (l : List Nd) (n : Nd) (xs : List Tx),txW (l ++ [n]) xs = (txW l xs).take ((txW l xs).length - belowS n) ++ [comT n ((txW l xs).drop ((txW l xs).length - belowS n))]
 | [],_,_ => rfl
 | _ :: l,n,_ => txW_snoc l n _
theorem tx_roots (t : List Nd) : ∀ i,i ≤ t.length → txW (t.take i) [] = (rootsAt t i).map (txAt t) ∧ ∀ n,t[i]? = some n → txAt t i = comT n ((kidsS t i).map (txAt t)):=by
 intro i
 induction i with
 | zero =>
  intro _
  refine ⟨rfl,fun n hn => ?_⟩
  obtain ⟨hi,e⟩:=List.getElem?_eq_some_iff.1 hn
  have e1 : txAt t 0 = ((txW (t.take 1) []).getLast?).getD ([],8):=rfl
  have e2 : t.take 1 = [n]:=by
   have:=List.take_succ_eq_append_getElem hi
   rw [e] at this
   simpa using this
  rw [e1,e2,kids_eq hn,show rootsAt t 0 = [] from rfl,List.drop_nil]
  show (([] : List Tx).take (0 - belowS n) ++ [_]).getLast?.getD _ = _
  rw [List.take_nil]
  show comT n (List.drop (0 - belowS n) []) = _
  rw [List.drop_nil]
  rfl
 | succ i ih =>
  intro hi
  obtain ⟨n,hn⟩ : ∃ n,t[i]? = some n:=⟨_,List.getElem?_eq_getElem (by omega)⟩
  obtain ⟨h1,h2⟩:=ih (by omega)
  obtain ⟨hl,e⟩:=List.getElem?_eq_some_iff.1 hn
  have h3 : txW (t.take (i + 1)) [] = (rootsAt t (i + 1)).map (txAt t):=by
   rw [roots_step hn,List.map_append,List.take_succ_eq_append_getElem hl,e,txW_snoc,h1]
   simp only [List.length_map,List.map_take,List.map_cons,List.map_nil]
   rw [h2 n hn,kids_eq hn,List.map_drop]
  refine ⟨h3,fun m hm => ?_⟩
  obtain ⟨hl2,e2⟩:=List.getElem?_eq_some_iff.1 hm
  show ((txW (t.take (i + 1 + 1)) []).getLast?).getD ([],8) = _
  rw [List.take_succ_eq_append_getElem hl2,e2,txW_snoc,h3,kids_eq hm]
  simp only [List.length_map]
  rw [List.map_drop]
  simp
theorem tx_eq {t : List Nd} {i : Nat} {n : Nd} (h : t[i]? = some n) : txAt t i = comT n ((kidsS t i).map (txAt t)) :=
 (tx_roots t i (Nat.le_of_lt (List.getElem?_eq_some_iff.1 h).1)).2 n h
def olAt (t : List Nd) (i : Nat) : Ol:=((olW (t.take (i + 1)) []).getLast?).getD []
theorem olW_snoc : ∀ (l : List Nd) (n : Nd) (xs : List Ol),olW (l ++ [n]) xs = (olW l xs).take ((olW l xs).length - belowS n) ++ [comO n ((olW l xs).drop ((olW l xs).length - belowS n))]
 | [],_,_ => rfl
 | _ :: l,n,_ => olW_snoc l n _
theorem ol_roots (t : List Nd) : ∀ i,i ≤ t.length → olW (t.take i) [] = (rootsAt t i).map (olAt t) ∧ ∀ n,t[i]? = some n → olAt t i = comO n ((kidsS t i).map (olAt t)):=by
 intro i
 induction i with
 | zero =>
  intro _
  refine ⟨rfl,fun n hn => ?_⟩
  obtain ⟨hi,e⟩:=List.getElem?_eq_some_iff.1 hn
  have e1 : olAt t 0 = ((olW (t.take 1) []).getLast?).getD []:=rfl
  have e2 : t.take 1 = [n]:=by
   have:=List.take_succ_eq_append_getElem hi
   rw [e] at this
   simpa using this
  rw [e1,e2,kids_eq hn,show rootsAt t 0 = [] from rfl,List.drop_nil]
  show (([] : List Ol).take (0 - belowS n) ++ [_]).getLast?.getD _ = _
  rw [List.take_nil]
  show comO n (List.drop (0 - belowS n) []) = _
  rw [List.drop_nil]
  rfl
 | succ i ih =>
  intro hi
  obtain ⟨n,hn⟩ : ∃ n,t[i]? = some n:=⟨_,List.getElem?_eq_getElem (by omega)⟩
  obtain ⟨h1,h2⟩:=ih (by omega)
  obtain ⟨hl,e⟩:=List.getElem?_eq_some_iff.1 hn
  have h3 : olW (t.take (i + 1)) [] = (rootsAt t (i + 1)).map (olAt t):=by
   rw [roots_step hn,List.map_append,List.take_succ_eq_append_getElem hl,e,olW_snoc,h1]
   simp only [List.length_map,List.map_take,List.map_cons,List.map_nil]
   rw [h2 n hn,kids_eq hn,List.map_drop]
  refine ⟨h3,fun m hm => ?_⟩
  obtain ⟨hl2,e2⟩:=List.getElem?_eq_some_iff.1 hm
  show ((olW (t.take (i + 1 + 1)) []).getLast?).getD [] = _
  rw [List.take_succ_eq_append_getElem hl2,e2,olW_snoc,h3,kids_eq hm]
  simp only [List.length_map]
  rw [List.map_drop]
  simp
theorem ol_eq {t : List Nd} {i : Nat} {n : Nd} (h : t[i]? = some n) : olAt t i = comO n ((kidsS t i).map (olAt t)) :=
 (ol_roots t i (Nat.le_of_lt (List.getElem?_eq_some_iff.1 h).1)).2 n h
theorem walk_roots (t : List Nd) : ∀ (l : List Nd) (i : Nat) (st st2 : List Pt),t.drop i = l → i ≤ t.length → walkW t i l st = .ok st2 → st.map (·.root) = rootsAt t i →
  st2.map (·.root) = rootsAt t t.length ∧ ∀ k n,i ≤ k → t[k]? = some n → (kidsS t k).length = belowS n
 | [],i,st,st2,hd,hi,h,hr => by
  rw [walkW] at h
  injection h with h
  have hl : t.length ≤ i:=by have:=congrArg List.length hd; rw [List.length_drop] at this; simp at this; omega
  obtain rfl : i = t.length:=by omega
  refine ⟨by rw [← h]; exact hr,fun k n hk hn => ?_⟩
  have:=(List.getElem?_eq_some_iff.1 hn).1
  omega
 | n :: l,i,st,st2,hd,hi,h,hr => by
  obtain ⟨hn,hd2⟩:=drop_at_ hd
  have hlt:=(List.getElem?_eq_some_iff.1 hn).1
  have hlen : st.length = (rootsAt t i).length:=by have:=congrArg List.length hr; rwa [List.length_map] at this
  rw [walkW] at h
  cases hs : stepW t st i n with
  | error c => rw [hs] at h; cases h
  | ok s1 =>
   rw [hs] at h
   unfold stepW at hs
   split at hs
   ·cases hs
   next hge =>
   split at hs
   ·cases hs
   split at hs
   ·cases hs
   injection hs with hs
   obtain ⟨g1,g2⟩:=walk_roots t l (i + 1) s1 st2 hd2 (by omega) h (by
    rw [roots_step hn,← hs,List.map_append,List.map_take,hr,hlen]
    rfl)
   refine ⟨g1,fun k m hk hm => ?_⟩
   by_cases e : k = i
   ·subst e
    rw [hn] at hm
    obtain rfl:=Option.some.inj hm
    rw [kids_eq hn,List.length_drop]
    omega
   ·exact g2 k m (by omega) hm
theorem tree_roots {t : List Nd} {p : Pt} (h : walkW t 0 t [] = .ok [p]) (h0 : t ≠ []) : rootsAt t t.length = [t.length - 1] ∧ (∀ k n,t[k]? = some n → (kidsS t k).length = belowS n) ∧ showT t = (txAt t (t.length - 1)).1 ∧ outS t = olAt t (t.length - 1):=by
 obtain ⟨g1,g2⟩:=walk_roots t t 0 [] [p] rfl (Nat.zero_le _) h rfl
 have hpos : 0 < t.length:=List.length_pos_iff.2 h0
 obtain ⟨n,hn⟩ : ∃ n,t[t.length - 1]? = some n:=⟨_,List.getElem?_eq_getElem (by omega)⟩
 have e : rootsAt t t.length = [t.length - 1]:=by
  have:=roots_step hn
  rw [show t.length - 1 + 1 = t.length by omega] at this
  rw [this] at g1 ⊢
  have hl:=congrArg List.length g1
  rw [List.length_append] at hl
  simp only [List.length_map,List.length_cons,List.length_nil] at hl
  have : (rootsAt t (t.length - 1)).take ((rootsAt t (t.length - 1)).length - belowS n) = []:=List.length_eq_zero_iff.1 (by omega)
  rw [this]; rfl
 refine ⟨e,fun k m hm => g2 k m (Nat.zero_le _) hm,?_,?_⟩
 ·have:=(tx_roots t t.length (Nat.le_refl _)).1
  rw [List.take_of_length_le (Nat.le_refl _),e] at this
  unfold showT
  rw [this]; rfl
 ·have:=(ol_roots t t.length (Nat.le_refl _)).1
  rw [List.take_of_length_le (Nat.le_refl _),e] at this
  unfold outS
  rw [this]; rfl
end Go.Proofs.YtlbigmlaokdmdaaGreatDoor
namespace Go.Proofs.YtlbigmlaokdmdaaGreatDoor
open Go.RowKit
def lev (l : Ol) (k : Nat) : Nat:=(l[k]?.map (·.1)).getD 0
def lastL (l : Ol) (k : Nat) : Int:=if k = 0 then -2 else 2 * (lev l (k - 1) : Int)
def deepL (l : Ol) (k : Nat) : Nat:=if k = 0 then 0 else hiO (l.take k) + 1
theorem lev_at {l : Ol} {k : Nat} {x : Nat × List UInt8} (h : l[k]? = some x) : lev l k = x.1:=by unfold lev; rw [h]; rfl
theorem steps_at : ∀ (l : Ol) (p k : Nat) (x : Nat × List UInt8),Steps p l → l[k]? = some x → 1 ≤ x.1 ∧ x.1 ≤ p + k + 1 ∧ (k = 0 → x.1 ≤ p + 1) ∧ (0 < k → x.1 ≤ lev l (k - 1) + 1):=by
 intro l
 induction l with
 | nil => intro p k x _ h; cases h
 | cons y l ih =>
  intro p k x hs h
  obtain ⟨h1,h2,h3⟩:=hs
  cases k with
  | zero =>
   simp only [List.getElem?_cons_zero,Option.some.injEq] at h
   subst h
   exact ⟨h1,by omega,fun _ => h2,fun h => absurd h (by omega)⟩
  | succ k =>
   rw [List.getElem?_cons_succ] at h
   obtain ⟨g1,g2,g3,g4⟩:=ih y.1 k x h3 h
   refine ⟨g1,by omega,fun h => absurd h (by omega),fun _ => ?_⟩
   cases k with
   | zero =>
    have:=g3 rfl
    show x.1 ≤ lev (y :: l) 0 + 1
    rw [lev_at (l:=y :: l) (k:=0) (x:=y) rfl]
    exact this
   | succ k =>
    have:=g4 (by omega)
    show x.1 ≤ lev (y :: l) (k + 1) + 1
    have e : lev (y :: l) (k + 1) = lev l k:=by unfold lev; rw [List.getElem?_cons_succ]
    rw [e]
    exact this
theorem wf_at {l : Ol} (h : WfO l) {k : Nat} {x : Nat × List UInt8} (hk : l[k]? = some x) : (k = 0 → x.1 = 0) ∧ (0 < k → 1 ≤ x.1) ∧ 2 * (x.1 : Int) ≤ lastL l k + 2 ∧ x.1 ≤ k:=by
 obtain ⟨a,r,rfl,hr⟩:=h
 cases k with
 | zero =>
  simp only [List.getElem?_cons_zero,Option.some.injEq] at hk
  subst hk
  exact ⟨fun _ => rfl,fun h => absurd h (by omega),by unfold lastL; rw [if_pos rfl]; show 2 * ((0 : Nat) : Int) ≤ _; decide,Nat.zero_le _⟩
 | succ k =>
  have hk2:=hk
  rw [List.getElem?_cons_succ] at hk
  obtain ⟨h1,h2,h3,h4⟩:=steps_at r 0 k x hr hk
  refine ⟨fun h => absurd h (by omega),fun _ => h1,?_,by omega⟩
  unfold lastL
  rw [if_neg (by omega),show k + 1 - 1 = k from rfl]
  cases k with
  | zero =>
   have:=h3 rfl
   rw [lev_at (l:=(0,a) :: r) (k:=0) (x:=(0,a)) rfl]
   show 2 * (x.1 : Int) ≤ 2 * ((0 : Nat) : Int) + 2
   omega
  | succ k =>
   have:=h4 (by omega)
   have e : lev ((0,a) :: r) (k + 1) = lev r k:=by unfold lev; rw [List.getElem?_cons_succ]
   rw [e]
   rw [show k + 1 - 1 = k from rfl] at this
   omega
theorem last_step {l : Ol} {k : Nat} {x : Nat × List UInt8} (h : l[k]? = some x) : lastL l (k + 1) = 2 * (x.1 : Int):=by
 unfold lastL
 rw [if_neg (by omega),show k + 1 - 1 = k from rfl,lev_at h]
theorem deep_step {l : Ol} {k : Nat} {x : Nat × List UInt8} (h : l[k]? = some x) : deepL l (k + 1) = max (deepL l k) (x.1 + 1):=by
 have hlt : k < l.length:=(List.getElem?_eq_some_iff.1 h).1
 have he : l[k] = x:=(List.getElem?_eq_some_iff.1 h).2
 unfold deepL
 rw [if_neg (by omega),List.take_succ_eq_append_getElem hlt,hi_app,he,hi_cons]
 show max (hiO (l.take k)) (max x.1 (hiO [])) + 1 = _
 rw [show hiO [] = 0 from rfl]
 by_cases h0 : k = 0
 ·subst h0
  rw [if_pos rfl,List.take_zero,show hiO [] = 0 from rfl]
  omega
 ·rw [if_neg h0]
  omega
theorem deep_all {l : Ol} (h : l ≠ []) : deepL l l.length = hiO l + 1:=by
 unfold deepL
 rw [if_neg (by simpa using h),List.take_length]
theorem deep_le {l : Ol} (h : WfO l) : ∀ k,k ≤ l.length → deepL l k ≤ k:=by
 intro k
 induction k with
 | zero => intro _; unfold deepL; simp
 | succ k ih =>
  intro hk
  have hx : l[k]? = some l[k]:=List.getElem?_eq_getElem (by omega)
  rw [deep_step hx]
  have:=(wf_at h hx).2.2.2
  have:=ih (by omega)
  omega
theorem line_at (x : Nat × List UInt8) (b : UInt8) (r : List UInt8) (h : x.2 = b :: r) (X : ByteArray) (hX : X = ⟨(lineO x).toArray⟩) : 2 * x.1 < X.size ∧ (∀ m,m < 2 * x.1 → ∀ g,X[m]'g = 32) ∧ ∀ g,X[2 * x.1]'g = b:=by
 have hs : X.data.toList = List.replicate (2 * x.1) 32 ++ b :: r:=by rw [hX]; unfold lineO; rw [h]
 have hz : X.data.toList.length = X.size:=by rw [Array.length_toList]; rfl
 have hl : X.data.toList.length = 2 * x.1 + (r.length + 1):=by rw [hs,List.length_append,List.length_replicate,List.length_cons]
 have key : ∀ m (g : m < X.size),X[m]'g = X.data.toList[m]'(by omega):=fun m g => by rw [Array.getElem_toList]; rfl
 refine ⟨by omega,fun m hm g => ?_,fun g => ?_⟩
 ·rw [key m g]
  have : X.data.toList[m]? = some 32:=by rw [hs,List.getElem?_append_left (by simpa using hm),List.getElem?_replicate,if_pos hm]
  rw [List.getElem?_eq_getElem (by omega)] at this
  exact Option.some.inj this
 ·rw [key _ g]
  have : X.data.toList[2 * x.1]? = some b:=by rw [hs,List.getElem?_append_right (by simp),List.length_replicate,Nat.sub_self]; rfl
  rw [List.getElem?_eq_getElem (by omega)] at this
  exact Option.some.inj this
end Go.Proofs.YtlbigmlaokdmdaaGreatDoor
