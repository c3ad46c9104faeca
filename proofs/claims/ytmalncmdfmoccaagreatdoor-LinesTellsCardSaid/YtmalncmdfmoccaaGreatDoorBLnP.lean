/- Plain: replies, and their lines. No program stands here. -/
import Derived.Test.YtmalncmdfmoccaaGreatDoorBOpP
import Derived.Test.YtmalncmdfmoccaaGreatDoorBDcB
import Derived.Test.YtmalncmdfmoccaaGreatDoorBEqV
import Derived.Test.YtmalncmdfmoccaaGreatDoorBShw
namespace Go.Proofs.YtmalncmdfmoccaaGreatDoor
open Go.RowKit
structure EvD where
  step : Int
  user : Int
  kind : Nat
  rect : R4
  done : Bool
  tg : Nat
structure RlD where
  step : Int
  col : Int
  row : Int
  node : Int
  fn : Nat
  rect : R4
  grant : Int
  tg : Nat
abbrev VlL:=Nat × Int × List UInt8
structure RpD where
  code : Nat
  at_ : Int
  grid : List VlL
  text : List UInt8
  evs : List EvD
  rls : List RlD
  count : Int
def yesL (d : Bool) : List UInt8:=if d = true then [121,101,115] else [110,111]
def evW (x : EvD) : List (List UInt8):=[[101,118,101,110,116],Lib.itoa x.step,Lib.itoa x.user,Lib.itoa (x.kind : Nat),rangeL x.rect,yesL x.done,gfmtL x.tg]
def evL (x : EvD) : List UInt8:=Lib.join (evW x) [32]
def rlW (x : RlD) : List (List UInt8):=[[115,104,111,119,110],Lib.itoa x.step,rangeL ⟨x.col,x.row,x.col,x.row⟩,Lib.itoa x.node,Lib.itoa (x.fn : Nat),rangeL x.rect,Lib.itoa x.grant,gfmtL x.tg]
def rlL (x : RlD) : List UInt8:=Lib.join (rlW x) [32]
def valT (v : VlL) : List UInt8:=if v.1 = 0 then [45] else if v.1 = 3 then quoteS v.2.2 else showV v.1 v.2.1 v.2.2
def goodL (v : VlL) : Prop:=cellV v.1 v.2.1 v.2.2 ∨ v = (4,7,[])
def codeN : List (List UInt8):=[[100,111,110,101],[102,111,114,109],[117,110,107,110,111,119,110],[111,117,116],[102,117,108,108],[114,101,102,117,115,101,100],[115,121,110,116,97,120],[108,105,109,105,116],[109,105,115,115,105,110,103]]
def secN (kw : List UInt8) (n : Int) : List (List UInt8):=if 0 < n then [kw,Lib.itoa n] else []
def secT (t : List UInt8) : List (List UInt8):=if t = [] then [] else [[116,101,120,116],quoteS t]
def kAt : List UInt8:=[97,116]
def kCnt : List UInt8:=[99,111,117,110,116]
def kGrid : List UInt8:=[103,114,105,100]
def kEvs : List UInt8:=[101,118,101,110,116,115]
def kRls : List UInt8:=[114,101,108,101,97,115,101,115]
def replyW (r : RpD) : List (List UInt8):=(codeN[r.code]?).getD [] :: (secN kAt r.at_ ++ (secN kCnt r.count ++ (secT r.text ++ (secN kGrid r.grid.length ++ r.grid.map valT ++ (secN kEvs r.evs.length ++ r.evs.map evL ++ (secN kRls r.rls.length ++ r.rls.map rlL))))))
def replyL (r : RpD) : List UInt8:=Lib.join (replyW r) [32]
def headB (r : RpD) : Prop:=r.code ≤ 8 ∧ 0 ≤ r.at_ ∧ 0 ≤ r.count ∧ checkT r.text = 0
def goodR (r : RpD) : Prop:=headB r ∧ ∀ v ∈ r.grid,goodL v
open Classical in
noncomputable def replyE (r : RpD) : List UInt8 × Int:=if goodR r then (replyL r,0) else ([],2)
theorem reply_yes {r : RpD} (h : goodR r) : replyE r = (replyL r,0):=if_pos h
theorem reply_no {r : RpD} (h : ¬ goodR r) : replyE r = ([],2):=if_neg h
-- bounds
structure EvD.Ok (x : EvD) : Prop where
  step : i64B x.step
  user : i64B x.user
  kind : x.kind < 256
  c1 : i64B x.rect.c1
  r1 : i64B x.rect.r1
  c2 : i64B x.rect.c2
  r2 : i64B x.rect.r2
  tg : x.tg < 18446744073709551616
structure RlD.Ok (x : RlD) : Prop where
  step : i64B x.step
  col : i64B x.col
  row : i64B x.row
  node : i64B x.node
  fn : x.fn < 256
  c1 : i64B x.rect.c1
  r1 : i64B x.rect.r1
  c2 : i64B x.rect.c2
  r2 : i64B x.rect.r2
  grant : i64B x.grant
  tg : x.tg < 18446744073709551616
structure RpD.Ok (r : RpD) : Prop where
  at_ : i64B r.at_
  count : i64B r.count
  nums : ∀ v ∈ r.grid,-9223372036854775808 ≤ v.2.1 ∧ v.2.1 ≤ 9223372036854775807
  evs : ∀ x ∈ r.evs,x.Ok
  rls : ∀ x ∈ r.rls,x.Ok
  gl : r.grid.length ≤ 1000
  el : r.evs.length ≤ 1000
  rl : r.rls.length ≤ 1000
-- the words behind the first one
def tlW (ws : List (List UInt8)) : List UInt8:=ws.flatMap fun x => 32 :: x
theorem tl_app (a b : List (List UInt8)) : tlW (a ++ b) = tlW a ++ tlW b:=by unfold tlW; rw [List.flatMap_append]
theorem tl_cons (x : List UInt8) (ws : List (List UInt8)) : tlW (x :: ws) = 32 :: (x ++ tlW ws):=rfl
theorem join_tl (x : List UInt8) (ws : List (List UInt8)) : Lib.join (x :: ws) [32] = x ++ tlW ws:=by
  induction ws generalizing x with
  | nil => rw [Lib.join_one]; simp [tlW]
  | cons y r ih => rw [join_two,ih,tl_cons]
theorem tl_join (x : List UInt8) (ws : List (List UInt8)) : 32 :: Lib.join (x :: ws) [32] = tlW (x :: ws):=by rw [join_tl,tl_cons]
def Bd (X : List UInt8) : Prop:=X = [] ∨ ∃ Z,X = 32 :: Z
theorem bd_tl {X : List UInt8} (ws : List (List UInt8)) (h : Bd X) : Bd (tlW ws ++ X):=by
  cases ws with
  | nil => exact h
  | cons w ws => exact .inr ⟨w ++ tlW ws ++ X,by rw [tl_cons]; simp⟩
theorem ink_cut : ∀ {w v X Y : List UInt8},w.all inkB = true → v.all inkB = true → Bd X → Bd Y → w ++ X = v ++ Y → w = v ∧ X = Y
  | [],[],_,_,_,_,_,_,h => ⟨rfl,h⟩
  | [],b :: v,X,Y,_,hv,hX,_,h => by
    exfalso
    have hb : b ≠ 32:=ink_ne _ hv b (by simp)
    have h : X = b :: (v ++ Y):=h
    rcases hX with rfl | ⟨Z,rfl⟩
    · cases h
    · exact hb (List.cons.inj h).1.symm
  | a :: w,[],X,Y,hw,_,_,hY,h => by
    exfalso
    have ha : a ≠ 32:=ink_ne _ hw a (by simp)
    have h : a :: (w ++ X) = Y:=h
    rcases hY with rfl | ⟨Z,rfl⟩
    · cases h
    · exact ha (List.cons.inj h).1
  | a :: w,b :: v,X,Y,hw,hv,hX,hY,h => by
    rw [List.all_cons,Bool.and_eq_true] at hw hv
    obtain ⟨rfl,h2⟩:=List.cons.inj (show a :: (w ++ X) = b :: (v ++ Y) from h)
    obtain ⟨rfl,h3⟩:=ink_cut hw.2 hv.2 hX hY h2
    exact ⟨rfl,h3⟩
theorem inks_cut : ∀ {ws vs : List (List UInt8)} {X Y : List UInt8},ws.length = vs.length → (∀ w ∈ ws,w.all inkB = true) → (∀ v ∈ vs,v.all inkB = true) → Bd X → Bd Y → tlW ws ++ X = tlW vs ++ Y → ws = vs ∧ X = Y
  | [],[],_,_,_,_,_,_,_,h => ⟨rfl,h⟩
  | [],_ :: _,_,_,hl,_,_,_,_,_ => by simp at hl
  | _ :: _,[],_,_,hl,_,_,_,_,_ => by simp at hl
  | w :: ws,v :: vs,X,Y,hl,hw,hv,hX,hY,h => by
    rw [tl_cons,tl_cons] at h
    have h2 : w ++ (tlW ws ++ X) = v ++ (tlW vs ++ Y):=by simpa using h
    obtain ⟨rfl,h3⟩:=ink_cut (hw w (by simp)) (hv v (by simp)) (bd_tl ws hX) (bd_tl vs hY) h2
    obtain ⟨rfl,h4⟩:=inks_cut (by simpa using hl) (fun x hx => hw x (by simp [hx])) (fun x hx => hv x (by simp [hx])) hX hY h3
    exact ⟨rfl,h4⟩
theorem unq_bd (t : List UInt8) {X : List UInt8} (h : Bd X) : unqS (t.flatMap quoteB ++ 34 :: X) = some (t,(t.flatMap quoteB).length + 1):=by
  induction t with
  | nil =>
    rcases h with rfl | ⟨Z,rfl⟩
    · rfl
    · show unqS (34 :: 32 :: Z) = _
      rw [unqS,if_pos rfl,if_neg (by decide)]; rfl
  | cons b t ih =>
    rw [List.flatMap_cons,List.append_assoc]
    by_cases hb : b = 34
    · have hq : quoteB b = [34,34]:=by unfold quoteB; rw [if_pos hb]
      subst hb
      rw [hq]
      show unqS (34 :: 34 :: (t.flatMap quoteB ++ 34 :: X)) = _
      rw [unqS_two,ih]
      simp
    · have hq : quoteB b = [b]:=by unfold quoteB; rw [if_neg hb]
      rw [hq]
      show unqS (b :: (t.flatMap quoteB ++ 34 :: X)) = _
      rw [unqS_ne hb (by simp),ih]
      simp
theorem quote_cut {t u X Y : List UInt8} (hX : Bd X) (hY : Bd Y) (h : quoteS t ++ X = quoteS u ++ Y) : t = u ∧ X = Y:=by
  unfold quoteS at h
  have h2 : t.flatMap quoteB ++ 34 :: X = u.flatMap quoteB ++ 34 :: Y:=by simpa using h
  have e1:=unq_bd t hX
  have e2:=unq_bd u hY
  rw [h2,e2] at e1
  obtain ⟨rfl,-⟩:=Prod.mk.inj (Option.some.inj e1)
  have:=List.append_cancel_left h2
  exact ⟨rfl,(List.cons.inj this).2⟩
-- values
theorem ink_decS (n : Int) : (decS n).all inkB = true:=by
  obtain ⟨b,w,p,j,hb,-,hq,-,hp,-,e⟩:=dec_cut n
  have key : ∀ x,isDig x = true → inkB x = true:=fun x hx => ink_dec x (of_decide_eq_true hx)
  rw [e,List.all_eq_true]
  intro x hx
  rw [List.mem_append,List.mem_append] at hx
  rcases hx with (hx | hx) | hx
  · split at hx
    · rw [List.mem_singleton] at hx; subst hx; decide
    · cases hx
  · exact key x (hq x hx)
  · split at hx
    · cases hx
    · rcases List.mem_cons.1 hx with rfl | hx
      · decide
      · exact key x (hp x hx)
theorem decS_inj {n m : Int} (h1 : -9223372036854775807 ≤ n) (h2 : n ≤ 9223372036854775807) (h3 : -9223372036854775807 ≤ m) (h4 : m ≤ 9223372036854775807) (h : decS n = decS m) : n = m:=by
  have e1:=parD_dec n h1 h2
  rw [h,parD_dec m h3 h4] at e1
  exact (Prod.mk.inj e1).1.symm
theorem goodL_cases {v : VlL} (h : goodL v) : v = (0,0,[]) ∨ (∃ n,v = (1,n,[]) ∧ n ≠ -9223372036854775808) ∨ v = (2,0,[]) ∨ v = (2,1,[]) ∨ (∃ t,v = (3,0,t) ∧ checkT t = 0) ∨ v = (4,1,[]) ∨ v = (4,2,[]) ∨ v = (4,3,[]) ∨ v = (4,4,[]) ∨ v = (4,5,[]) ∨ v = (4,6,[]) ∨ v = (4,7,[]):=by
  obtain ⟨k,n,t⟩:=v
  rcases h with h | h
  · rcases h with ⟨h1,h2,h3⟩ | ⟨h1,h2,h3⟩ | ⟨h1,h2,h3⟩ | ⟨h1,h2,h3⟩ | ⟨h1,h2,h3,h4⟩
    · simp only at h1 h2 h3; subst h1 h2 h3; simp
    · simp only at h1 h2 h3; subst h1 h2; exact .inr (.inl ⟨n,rfl,h3⟩)
    · simp only at h1 h2 h3; subst h1 h2; rcases h3 with rfl | rfl <;> simp
    · simp only at h1 h2 h3; subst h1 h2; exact .inr (.inr (.inr (.inr (.inl ⟨t,rfl,h3⟩))))
    · simp only at h1 h2 h3 h4; subst h1 h2
      obtain rfl | rfl | rfl | rfl | rfl | rfl : n = 1 ∨ n = 2 ∨ n = 3 ∨ n = 4 ∨ n = 5 ∨ n = 6:=by omega
      all_goals simp
  · rw [h]; simp
def fixV : List VlL:=[(0,0,[]),(2,0,[]),(2,1,[]),(4,1,[]),(4,2,[]),(4,3,[]),(4,4,[]),(4,5,[]),(4,6,[]),(4,7,[])]
theorem good_fix {v : VlL} (h : goodL v) : v ∈ fixV ∨ (∃ n,v = (1,n,[]) ∧ n ≠ -9223372036854775808) ∨ ∃ t,v = (3,0,t) ∧ checkT t = 0:=by
  rcases goodL_cases h with rfl | h | rfl | rfl | h | rfl | rfl | rfl | rfl | rfl | rfl | rfl
  all_goals first | exact .inr (.inl h) | exact .inr (.inr h) | exact .inl (by decide)
theorem fix_ink : ∀ v ∈ fixV,(valT v).all inkB = true ∧ (valT v).head? ≠ some 34 ∧ ∀ u ∈ fixV,valT u = valT v → u = v:=by decide
theorem fix_num : ∀ v ∈ fixV,∀ n : Int,valT v ≠ decS n:=by
  intro v hv n e
  obtain ⟨b,r,g,g1,g2⟩:=decS_head n
  rw [g] at e
  have key : ∀ v ∈ fixV,valT v = [45] ∨ ∃ c,(valT v).head? = some c ∧ ¬ (45 ≤ c.toNat ∧ c.toNat ≤ 57):=by
    intro v hv
    simp only [fixV,List.mem_cons,List.not_mem_nil,or_false] at hv
    rcases hv with rfl | rfl | rfl | rfl | rfl | rfl | rfl | rfl | rfl | rfl
    · exact .inl rfl
    all_goals exact .inr ⟨_,rfl,by decide⟩
  rcases key v hv with h | ⟨c,h,h2⟩
  · rw [h] at e
    -- a lone dash is no number
    obtain ⟨b2,w,p,j,hb,-,-,-,-,-,e2⟩:=dec_cut n
    rw [← g] at e
    rw [e2] at e
    split at e
    · have:=(List.cons.inj e).2
      cases this
    · have:=(List.cons.inj e).1
      rw [← this] at hb
      exact absurd hb (by decide)
  · rw [e] at h
    have h : b = c:=Option.some.inj h
    subst h
    exact h2 ⟨g1,g2⟩
theorem num_ink (n : Int) : (valT (1,n,[])).all inkB = true ∧ (valT (1,n,[])).head? ≠ some 34:=by
  have e : valT (1,n,[]) = decS n:=rfl
  rw [e]
  refine ⟨ink_decS n,?_⟩
  obtain ⟨b,r,g,g1,g2⟩:=decS_head n
  rw [g]
  intro h
  have h : b = 34:=Option.some.inj h
  rw [h] at g1
  exact absurd g1 (by decide)
def InV (v : VlL) : Prop:=goodL v ∧ -9223372036854775808 ≤ v.2.1 ∧ v.2.1 ≤ 9223372036854775807
theorem val_cut {u v : VlL} {X Y : List UInt8} (hu : InV u) (hv : InV v) (hX : Bd X) (hY : Bd Y) (h : valT u ++ X = valT v ++ Y) : u = v ∧ X = Y:=by
  have quo : ∀ (t : List UInt8) (w : VlL) (X Y : List UInt8),(valT w).head? ≠ some 34 → (valT w) ≠ [] → valT (3,0,t) ++ X ≠ valT w ++ Y:=by
    intro t w X Y h1 h2 e
    cases hw : valT w with
    | nil => exact h2 hw
    | cons b r =>
      rw [hw] at h1 e
      exact h1 (congrArg some (List.cons.inj (show 34 :: _ = b :: _ from e)).1.symm)
  have ne : ∀ w : VlL,goodL w → valT w ≠ []:=by
    intro w hw e
    rcases good_fix hw with h | ⟨n,rfl,-⟩ | ⟨t,rfl,-⟩
    · exact (show ∀ w ∈ fixV,valT w ≠ [] by decide) w h e
    · obtain ⟨b,r,g,-,-⟩:=decS_head n
      have e : decS n = []:=e
      rw [g] at e; cases e
    · cases e
  rcases good_fix hu.1 with gu | ⟨n,rfl,gn⟩ | ⟨t,rfl,-⟩ <;> rcases good_fix hv.1 with gv | ⟨m,rfl,gm⟩ | ⟨s,rfl,-⟩
  · obtain ⟨e,hxy⟩:=ink_cut (fix_ink u gu).1 (fix_ink v gv).1 hX hY h
    exact ⟨(fix_ink v gv).2.2 u gu e,hxy⟩
  · obtain ⟨e,-⟩:=ink_cut (fix_ink u gu).1 (num_ink m).1 hX hY h
    exact absurd e (fix_num u gu m)
  · exact absurd h.symm (quo s u Y X (fix_ink u gu).2.1 (ne u hu.1))
  · obtain ⟨e,-⟩:=ink_cut (num_ink n).1 (fix_ink v gv).1 hX hY h
    exact absurd e.symm (fix_num v gv n)
  · obtain ⟨e,hxy⟩:=ink_cut (num_ink n).1 (num_ink m).1 hX hY h
    have q1 : -9223372036854775808 ≤ n:=hu.2.1
    have q2 : -9223372036854775808 ≤ m:=hv.2.1
    have q3 : n ≤ 9223372036854775807:=hu.2.2
    have q4 : m ≤ 9223372036854775807:=hv.2.2
    have q5 : n = m:=decS_inj (by omega) q3 (by omega) q4 e
    subst q5
    exact ⟨rfl,hxy⟩
  · exact absurd h.symm (quo s _ Y X (num_ink n).2 (ne _ hu.1))
  · exact absurd h (quo t v X Y (fix_ink v gv).2.1 (ne v hv.1))
  · exact absurd h (quo t _ X Y (num_ink m).2 (ne _ hv.1))
  · obtain ⟨rfl,hxy⟩:=quote_cut hX hY (show quoteS t ++ X = quoteS s ++ Y from h)
    exact ⟨rfl,hxy⟩
-- events and releases
theorem rangeL_inj {r s : R4} (h1 : i64B r.c1) (h2 : i64B r.r1) (h3 : i64B r.c2) (h4 : i64B r.r2) (k1 : i64B s.c1) (k2 : i64B s.r1) (k3 : i64B s.c2) (k4 : i64B s.r2) (h : rangeL r = rangeL s) : r = s:=by
  have e:=rangeP_range r h1 h2 h3 h4
  rw [h,rangeP_range s k1 k2 k3 k4] at e
  exact (Option.some.inj e).symm
theorem set_inj {a b : Nat} (ha : a < 18446744073709551616) (hb : b < 18446744073709551616) (h : gfmtL a = gfmtL b) : a = b:=by
  have e:=setP_set a ha
  rw [h,setP_set b hb] at e
  exact (Option.some.inj e).symm
theorem yes_inj {a b : Bool} (h : yesL a = yesL b) : a = b:=by
  cases a <;> cases b <;> first | rfl | (exact absurd h (by decide))
theorem u8_inj {a b : Nat} (ha : a < 256) (hb : b < 256) (h : Lib.itoa (a : Nat) = Lib.itoa (b : Nat)) : a = b:=by
  have:=itoa_inj (a : Nat) (b : Nat) ⟨by omega,by omega⟩ ⟨by omega,by omega⟩ h
  omega
theorem ev_ink (x : EvD) (h : x.Ok) : ∀ w ∈ evW x,w.all inkB = true:=by
  intro w hw
  simp only [evW,List.mem_cons,List.not_mem_nil,or_false] at hw
  rcases hw with rfl | rfl | rfl | rfl | rfl | rfl | rfl
  · decide
  · exact ink_itoa _
  · exact ink_itoa _
  · exact ink_itoa _
  · exact ink_range _
  · unfold yesL; split <;> decide
  · exact ink_set _ h.tg
theorem rl_ink (x : RlD) (h : x.Ok) : ∀ w ∈ rlW x,w.all inkB = true:=by
  intro w hw
  simp only [rlW,List.mem_cons,List.not_mem_nil,or_false] at hw
  rcases hw with rfl | rfl | rfl | rfl | rfl | rfl | rfl | rfl
  · decide
  · exact ink_itoa _
  · exact ink_range _
  · exact ink_itoa _
  · exact ink_itoa _
  · exact ink_range _
  · exact ink_itoa _
  · exact ink_set _ h.tg
theorem ev_cut {x y : EvD} {X Y : List UInt8} (hx : x.Ok) (hy : y.Ok) (hX : Bd X) (hY : Bd Y) (h : evL x ++ X = evL y ++ Y) : x = y ∧ X = Y:=by
  have h2 : tlW (evW x) ++ X = tlW (evW y) ++ Y:=by
    have:=congrArg (32 :: ·) h
    have e : ∀ z : EvD,32 :: evL z = tlW (evW z):=fun z => tl_join _ _
    simp only [← List.cons_append,e] at this
    exact this
  obtain ⟨e,hxy⟩:=inks_cut (show (evW x).length = (evW y).length from rfl) (ev_ink x hx) (ev_ink y hy) hX hY h2
  refine ⟨?_,hxy⟩
  obtain ⟨s,u,k,r,d,t⟩:=x
  obtain ⟨s',u',k',r',d',t'⟩:=y
  simp only [evW,List.cons.injEq,and_true,true_and] at e
  obtain ⟨e1,e2,e3,e4,e5,e6⟩:=e
  have q1:=itoa_inj _ _ hx.step hy.step e1
  have q2:=itoa_inj _ _ hx.user hy.user e2
  have q3:=u8_inj hx.kind hy.kind e3
  have q4:=rangeL_inj hx.c1 hx.r1 hx.c2 hx.r2 hy.c1 hy.r1 hy.c2 hy.r2 e4
  have q5:=yes_inj e5
  have q6:=set_inj hx.tg hy.tg e6
  simp only at q1 q2 q3 q4 q5 q6
  subst q1 q2 q3 q4 q5 q6
  rfl
theorem rl_cut {x y : RlD} {X Y : List UInt8} (hx : x.Ok) (hy : y.Ok) (hX : Bd X) (hY : Bd Y) (h : rlL x ++ X = rlL y ++ Y) : x = y ∧ X = Y:=by
  have h2 : tlW (rlW x) ++ X = tlW (rlW y) ++ Y:=by
    have:=congrArg (32 :: ·) h
    have e : ∀ z : RlD,32 :: rlL z = tlW (rlW z):=fun z => tl_join _ _
    simp only [← List.cons_append,e] at this
    exact this
  obtain ⟨e,hxy⟩:=inks_cut (show (rlW x).length = (rlW y).length from rfl) (rl_ink x hx) (rl_ink y hy) hX hY h2
  refine ⟨?_,hxy⟩
  obtain ⟨s,c,r0,nd,k,r,g,t⟩:=x
  obtain ⟨s',c',r0',nd',k',r',g',t'⟩:=y
  simp only [rlW,List.cons.injEq,and_true,true_and] at e
  obtain ⟨e1,e2,e3,e4,e5,e6,e7⟩:=e
  have q1:=itoa_inj _ _ hx.step hy.step e1
  have q2:=rangeL_inj (r:=⟨c,r0,c,r0⟩) (s:=⟨c',r0',c',r0'⟩) hx.col hx.row hx.col hx.row hy.col hy.row hy.col hy.row e2
  have q3:=itoa_inj _ _ hx.node hy.node e3
  have q4:=u8_inj hx.fn hy.fn e4
  have q5:=rangeL_inj hx.c1 hx.r1 hx.c2 hx.r2 hy.c1 hy.r1 hy.c2 hy.r2 e5
  have q6:=itoa_inj _ _ hx.grant hy.grant e6
  have q7:=set_inj hx.tg hy.tg e7
  obtain ⟨q8,q9,-,-⟩:=R4.mk.inj q2
  simp only at q1 q3 q4 q5 q6 q7
  subst q1 q3 q4 q5 q6 q7 q8 q9
  rfl
-- the sections
theorem items_cut {α : Type} {f : α → List UInt8} {P : α → Prop} (cut : ∀ {u v : α} {X Y : List UInt8},P u → P v → Bd X → Bd Y → f u ++ X = f v ++ Y → u = v ∧ X = Y) :
    ∀ {l m : List α} {X Y : List UInt8},l.length = m.length → (∀ u ∈ l,P u) → (∀ u ∈ m,P u) → Bd X → Bd Y → tlW (l.map f) ++ X = tlW (m.map f) ++ Y → l = m ∧ X = Y
  | [],[],_,_,_,_,_,_,_,h => ⟨rfl,h⟩
  | [],_ :: _,_,_,hl,_,_,_,_,_ => by simp at hl
  | _ :: _,[],_,_,hl,_,_,_,_,_ => by simp at hl
  | u :: l,v :: m,X,Y,hl,hu,hv,hX,hY,h => by
    rw [List.map_cons,List.map_cons,tl_cons,tl_cons] at h
    have h2 : f u ++ (tlW (l.map f) ++ X) = f v ++ (tlW (m.map f) ++ Y):=by simpa using h
    obtain ⟨rfl,h3⟩:=cut (hu u (by simp)) (hv v (by simp)) (bd_tl _ hX) (bd_tl _ hY) h2
    obtain ⟨rfl,h4⟩:=items_cut cut (by simpa using hl) (fun x hx => hu x (by simp [hx])) (fun x hx => hv x (by simp [hx])) hX hY h3
    exact ⟨rfl,h4⟩
def Kw (K : List (List UInt8)) (X : List UInt8) : Prop:=X = [] ∨ ∃ k ∈ K,∃ Z,Bd Z ∧ X = 32 :: (k ++ Z)
theorem Kw.bd {K : List (List UInt8)} {X : List UInt8} (h : Kw K X) : Bd X:=by
  rcases h with rfl | ⟨k,-,Z,-,rfl⟩
  · exact .inl rfl
  · exact .inr ⟨_,rfl⟩
theorem Kw.mono {K L : List (List UInt8)} {X : List UInt8} (h : Kw K X) (hk : ∀ k ∈ K,k ∈ L) : Kw L X:=by
  rcases h with rfl | ⟨k,h1,Z,h2,rfl⟩
  · exact .inl rfl
  · exact .inr ⟨k,hk k h1,Z,h2,rfl⟩
theorem kw_other {K : List (List UInt8)} {kw Z Y : List UInt8} (hK : ∀ k ∈ K,k.all inkB = true) (hn : kw ∉ K) (hi : kw.all inkB = true) (hZ : Bd Z) (hY : Kw K Y) : 32 :: (kw ++ Z) ≠ Y:=by
  intro e
  rcases hY with rfl | ⟨k,h1,Z2,h2,rfl⟩
  · cases e
  · obtain ⟨rfl,-⟩:=ink_cut hi (hK k h1) hZ h2 (List.cons.inj e).2
    exact hn h1
theorem sec_cut {K : List (List UInt8)} {kw : List UInt8} {n m : Int} {X Y : List UInt8} (hK : ∀ k ∈ K,k.all inkB = true) (hn : kw ∉ K) (hi : kw.all inkB = true) (b1 : i64B n) (b2 : i64B m) (p1 : 0 ≤ n) (p2 : 0 ≤ m) (hX : Kw K X) (hY : Kw K Y)
    (h : tlW (secN kw n) ++ X = tlW (secN kw m) ++ Y) : n = m ∧ X = Y:=by
  have e1 : ∀ (n : Int) (X : List UInt8),0 < n → tlW (secN kw n) ++ X = 32 :: (kw ++ (32 :: (Lib.itoa n ++ X))):=by
    intro n X hn
    unfold secN
    rw [if_pos hn,tl_cons,tl_cons]; simp [tlW]
  have e2 : ∀ (n : Int) (X : List UInt8),¬ 0 < n → tlW (secN kw n) ++ X = X:=by
    intro n X hn
    unfold secN
    rw [if_neg hn]; rfl
  by_cases g1 : 0 < n <;> by_cases g2 : 0 < m
  · have hl : ∀ w ∈ [kw,Lib.itoa n],w.all inkB = true:=by
      intro w hw
      simp only [List.mem_cons,List.not_mem_nil,or_false] at hw
      rcases hw with rfl | rfl
      · exact hi
      · exact ink_itoa _
    have hm : ∀ w ∈ [kw,Lib.itoa m],w.all inkB = true:=by
      intro w hw
      simp only [List.mem_cons,List.not_mem_nil,or_false] at hw
      rcases hw with rfl | rfl
      · exact hi
      · exact ink_itoa _
    unfold secN at h
    rw [if_pos g1,if_pos g2] at h
    obtain ⟨e,hxy⟩:=inks_cut (show [kw,Lib.itoa n].length = [kw,Lib.itoa m].length from rfl) hl hm hX.bd hY.bd h
    simp only [List.cons.injEq,and_true,true_and] at e
    exact ⟨itoa_inj _ _ b1 b2 e,hxy⟩
  · rw [e1 n X g1,e2 m Y g2] at h
    exact absurd h (kw_other hK hn hi (.inr ⟨_,rfl⟩) hY)
  · rw [e2 n X g1,e1 m Y g2] at h
    exact absurd h.symm (kw_other hK hn hi (.inr ⟨_,rfl⟩) hX)
  · rw [e2 n X g1,e2 m Y g2] at h
    exact ⟨by omega,h⟩
theorem sec_kw {K : List (List UInt8)} {kw : List UInt8} {n : Int} {X : List UInt8} (hX : Kw K X) : Kw (kw :: K) (tlW (secN kw n) ++ X):=by
  unfold secN
  split
  · refine .inr ⟨kw,by simp,32 :: (Lib.itoa n ++ X),.inr ⟨_,rfl⟩,?_⟩
    rw [tl_cons,tl_cons]; simp [tlW]
  · exact hX.mono (by simp_all)
theorem text_cut {K : List (List UInt8)} {t u X Y : List UInt8} (hK : ∀ k ∈ K,k.all inkB = true) (hn : [116,101,120,116] ∉ K) (hX : Kw K X) (hY : Kw K Y) (h : tlW (secT t) ++ X = tlW (secT u) ++ Y) : t = u ∧ X = Y:=by
  have e1 : ∀ (t X : List UInt8),t ≠ [] → tlW (secT t) ++ X = 32 :: ([116,101,120,116] ++ (32 :: (quoteS t ++ X))):=by
    intro t X hn
    unfold secT
    rw [if_neg hn,tl_cons,tl_cons]; simp [tlW]
  by_cases g1 : t = [] <;> by_cases g2 : u = []
  · subst g1 g2; exact ⟨rfl,h⟩
  · subst g1
    rw [e1 u Y g2] at h
    exact absurd (show 32 :: _ = X from h.symm) (kw_other hK hn (by decide) (.inr ⟨_,rfl⟩) hX)
  · subst g2
    rw [e1 t X g1] at h
    exact absurd (show 32 :: _ = Y from h) (kw_other hK hn (by decide) (.inr ⟨_,rfl⟩) hY)
  · rw [e1 t X g1,e1 u Y g2] at h
    obtain ⟨-,h2⟩:=ink_cut (by decide) (by decide) (.inr ⟨_,rfl⟩) (.inr ⟨_,rfl⟩) (List.cons.inj h).2
    exact quote_cut hX.bd hY.bd (List.cons.inj h2).2
theorem text_kw {K : List (List UInt8)} {t X : List UInt8} (hX : Kw K X) : Kw ([116,101,120,116] :: K) (tlW (secT t) ++ X):=by
  unfold secT
  split
  · exact hX.mono (by simp_all)
  · refine .inr ⟨[116,101,120,116],by simp,32 :: (quoteS t ++ X),.inr ⟨_,rfl⟩,?_⟩
    rw [tl_cons,tl_cons]; simp [tlW]
theorem list_cut {α : Type} {f : α → List UInt8} {P : α → Prop} (cut : ∀ {u v : α} {X Y : List UInt8},P u → P v → Bd X → Bd Y → f u ++ X = f v ++ Y → u = v ∧ X = Y)
    {K : List (List UInt8)} {kw : List UInt8} {l m : List α} {X Y : List UInt8} (hK : ∀ k ∈ K,k.all inkB = true) (hn : kw ∉ K) (hi : kw.all inkB = true) (b1 : l.length ≤ 1000) (b2 : m.length ≤ 1000) (hl : ∀ u ∈ l,P u) (hm : ∀ u ∈ m,P u) (hX : Kw K X) (hY : Kw K Y)
    (h : tlW (secN kw l.length ++ l.map f) ++ X = tlW (secN kw m.length ++ m.map f) ++ Y) : l = m ∧ X = Y:=by
  rw [tl_app,tl_app,List.append_assoc,List.append_assoc] at h
  have e1 : ∀ (n : Int) (X : List UInt8),0 < n → tlW (secN kw n) ++ X = 32 :: (kw ++ (32 :: (Lib.itoa n ++ X))):=by
    intro n X hn
    unfold secN
    rw [if_pos hn,tl_cons,tl_cons]; simp [tlW]
  cases l with
  | nil =>
    cases m with
    | nil => exact ⟨rfl,h⟩
    | cons v m =>
      have h : X = tlW (secN kw ((v :: m).length : Nat)) ++ (tlW ((v :: m).map f) ++ Y):=h
      rw [e1 _ _ (by simp <;> omega)] at h
      exact absurd h.symm (kw_other hK hn hi (.inr ⟨_,rfl⟩) hX)
  | cons u l =>
    cases m with
    | nil =>
      have h : tlW (secN kw ((u :: l).length : Nat)) ++ (tlW ((u :: l).map f) ++ X) = Y:=h
      rw [e1 _ _ (by simp <;> omega)] at h
      exact absurd h (kw_other hK hn hi (.inr ⟨_,rfl⟩) hY)
    | cons v m =>
      rw [e1 _ _ (by simp <;> omega),e1 _ _ (by simp <;> omega)] at h
      obtain ⟨-,h2⟩:=ink_cut hi hi (.inr ⟨_,rfl⟩) (.inr ⟨_,rfl⟩) (List.cons.inj h).2
      obtain ⟨h3,h4⟩:=ink_cut (ink_itoa _) (ink_itoa _) (bd_tl _ hX.bd) (bd_tl _ hY.bd) (List.cons.inj h2).2
      have h5:=itoa_inj _ _ ⟨by omega,by omega⟩ ⟨by omega,by omega⟩ h3
      exact items_cut cut (by omega) hl hm hX.bd hY.bd h4
theorem list_kw {α : Type} {f : α → List UInt8} {K : List (List UInt8)} {kw : List UInt8} {l : List α} {X : List UInt8} (hX : Kw K X) : Kw (kw :: K) (tlW (secN kw l.length ++ l.map f) ++ X):=by
  rw [tl_app,List.append_assoc]
  cases l with
  | nil => exact hX.mono (by simp_all)
  | cons u l =>
    unfold secN
    rw [if_pos (by simp <;> omega)]
    refine .inr ⟨kw,by simp,32 :: (Lib.itoa ((u :: l).length : Nat) ++ (tlW ((u :: l).map f) ++ X)),.inr ⟨_,rfl⟩,?_⟩
    rw [tl_cons,tl_cons]; simp [tlW]
-- the whole line
theorem codeN_ink : ∀ w ∈ codeN,w.all inkB = true:=by decide
theorem code_w {k : Nat} (h : k ≤ 8) : ((codeN[k]?).getD []) ∈ codeN ∧ ∀ j ≤ 8,(codeN[k]?).getD [] = (codeN[j]?).getD [] → k = j:=by
  have key : ∀ k : Fin 9,((codeN[k.1]?).getD []) ∈ codeN ∧ ∀ j : Fin 9,(codeN[k.1]?).getD [] = (codeN[j.1]?).getD [] → k.1 = j.1:=by decide
  exact ⟨(key ⟨k,by omega⟩).1,fun j hj => (key ⟨k,by omega⟩).2 ⟨j,by omega⟩⟩
def K6 : List (List UInt8):=[]
def K5 : List (List UInt8):=kRls :: K6
def K4 : List (List UInt8):=kEvs :: K5
def K3 : List (List UInt8):=kGrid :: K4
def K2 : List (List UInt8):=[116,101,120,116] :: K3
def K1 : List (List UInt8):=kCnt :: K2
def t6 (r : RpD) : List UInt8:=tlW (secN kRls r.rls.length ++ r.rls.map rlL) ++ []
def t5 (r : RpD) : List UInt8:=tlW (secN kEvs r.evs.length ++ r.evs.map evL) ++ t6 r
def t4 (r : RpD) : List UInt8:=tlW (secN kGrid r.grid.length ++ r.grid.map valT) ++ t5 r
def t3 (r : RpD) : List UInt8:=tlW (secT r.text) ++ t4 r
def t2 (r : RpD) : List UInt8:=tlW (secN kCnt r.count) ++ t3 r
def t1 (r : RpD) : List UInt8:=tlW (secN kAt r.at_) ++ t2 r
theorem reply_t (r : RpD) : replyL r = (codeN[r.code]?).getD [] ++ t1 r:=by
  unfold replyL replyW
  rw [join_tl]
  unfold t1 t2 t3 t4 t5 t6
  simp only [tl_app,List.append_assoc,List.append_nil]
theorem k6 (r : RpD) : Kw K5 (t6 r):=list_kw (.inl rfl)
theorem k5 (r : RpD) : Kw K4 (t5 r):=list_kw (k6 r)
theorem k4 (r : RpD) : Kw K3 (t4 r):=list_kw (k5 r)
theorem k3 (r : RpD) : Kw K2 (t3 r):=text_kw (k4 r)
theorem k2 (r : RpD) : Kw K1 (t2 r):=sec_kw (k3 r)
theorem k1 (r : RpD) : Bd (t1 r):=(sec_kw (kw:=kAt) (k2 r)).bd
theorem reply_inj {a b : RpD} (oa : a.Ok) (ob : b.Ok) (ga : goodR a) (gb : goodR b) (h : replyL a = replyL b) : a = b:=by
  rw [reply_t,reply_t] at h
  obtain ⟨⟨a1,a2,a3,a4⟩,a5⟩:=ga
  obtain ⟨⟨b1,b2,b3,b4⟩,b5⟩:=gb
  obtain ⟨e1,h⟩:=ink_cut (codeN_ink _ (code_w a1).1) (codeN_ink _ (code_w b1).1) (k1 a) (k1 b) h
  have e1:=(code_w a1).2 _ b1 e1
  obtain ⟨e2,h⟩:=sec_cut (K:=K1) (by decide) (by decide) (by decide) oa.at_ ob.at_ a2 b2 (k2 a) (k2 b) h
  obtain ⟨e3,h⟩:=sec_cut (K:=K2) (by decide) (by decide) (by decide) oa.count ob.count a3 b3 (k3 a) (k3 b) h
  obtain ⟨e4,h⟩:=text_cut (K:=K3) (by decide) (by decide) (k4 a) (k4 b) h
  obtain ⟨e5,h⟩:=list_cut (P:=InV) val_cut (K:=K4) (by decide) (by decide) (by decide) oa.gl ob.gl (fun v hv => ⟨a5 v hv,oa.nums v hv⟩) (fun v hv => ⟨b5 v hv,ob.nums v hv⟩) (k5 a) (k5 b) h
  obtain ⟨e6,h⟩:=list_cut (P:=EvD.Ok) ev_cut (K:=K5) (by decide) (by decide) (by decide) oa.el ob.el oa.evs ob.evs (k6 a) (k6 b) h
  obtain ⟨e7,-⟩:=list_cut (P:=RlD.Ok) rl_cut (K:=K6) (by decide) (by decide) (by decide) oa.rl ob.rl oa.rls ob.rls (.inl rfl) (.inl rfl) h
  obtain ⟨c,x1,x2,x3,x4,x5,x6⟩:=a
  obtain ⟨c',y1,y2,y3,y4,y5,y6⟩:=b
  simp only at e1 e2 e3 e4 e5 e6 e7
  subst e1 e2 e3 e4 e5 e6 e7
  rfl
-- its bytes
theorem ink_plain {l : List UInt8} (h : l.all inkB = true) : ∀ b ∈ l,plainB b = true:=by
  intro b hb
  have:=List.all_eq_true.1 h b hb
  unfold inkB at this
  rw [Bool.and_eq_true,decide_eq_true_eq,decide_eq_true_eq] at this
  exact decide_eq_true (by omega)
theorem tl_plain {ws : List (List UInt8)} (h : ∀ w ∈ ws,∀ b ∈ w,plainB b = true) : ∀ b ∈ tlW ws,plainB b = true:=by
  intro b hb
  unfold tlW at hb
  obtain ⟨w,hw,hb⟩:=List.mem_flatMap.1 hb
  rcases List.mem_cons.1 hb with rfl | hb
  · decide
  · exact h w hw b hb
theorem quote_plain {t : List UInt8} (h : checkT t = 0) : ∀ b ∈ quoteS t,plainB b = true:=by
  have hp : t.all plainB = true:=by
    unfold checkT at h
    split at h
    · exact absurd h (by decide)
    · split at h
      · assumption
      · exact absurd h (by decide)
  have:=List.all_eq_true.1 (plain_flat t hp)
  intro b hb
  unfold quoteS at hb
  rcases List.mem_cons.1 hb with rfl | hb
  · decide
  · rcases List.mem_append.1 hb with hb | hb
    · exact this b hb
    · rw [List.mem_singleton] at hb; subst hb; decide
theorem val_plain {v : VlL} (h : goodL v) : ∀ b ∈ valT v,plainB b = true:=by
  rcases good_fix h with h | ⟨n,rfl,-⟩ | ⟨t,rfl,ht⟩
  · exact ink_plain (fix_ink v h).1
  · exact ink_plain (num_ink n).1
  · exact quote_plain ht
theorem secN_plain (kw : List UInt8) (hk : kw.all inkB = true) (n : Int) : ∀ w ∈ secN kw n,∀ b ∈ w,plainB b = true:=by
  intro w hw
  unfold secN at hw
  split at hw
  · simp only [List.mem_cons,List.not_mem_nil,or_false] at hw
    rcases hw with rfl | rfl
    · exact ink_plain hk
    · exact ink_plain (ink_itoa _)
  · cases hw
theorem reply_plain {r : RpD} (o : r.Ok) (g : goodR r) : ∀ b ∈ replyL r,plainB b = true:=by
  obtain ⟨⟨g1,-,-,g4⟩,g5⟩:=g
  have hev : ∀ x : EvD,x.Ok → ∀ b ∈ evL x,plainB b = true:=by
    intro x hx b hb
    have:=tl_plain (ws:=evW x) (fun w hw => ink_plain (ev_ink x hx w hw)) b
    rw [← show 32 :: evL x = tlW (evW x) from tl_join _ _] at this
    exact this (by simp [hb])
  have hrl : ∀ x : RlD,x.Ok → ∀ b ∈ rlL x,plainB b = true:=by
    intro x hx b hb
    have:=tl_plain (ws:=rlW x) (fun w hw => ink_plain (rl_ink x hx w hw)) b
    rw [← show 32 :: rlL x = tlW (rlW x) from tl_join _ _] at this
    exact this (by simp [hb])
  intro b hb
  unfold replyL replyW at hb
  rw [join_tl] at hb
  rcases List.mem_append.1 hb with hb | hb
  · exact ink_plain (codeN_ink _ (code_w g1).1) b hb
  · refine tl_plain (fun w hw => ?_) b hb
    simp only [List.mem_append] at hw
    rcases hw with hw | hw | hw | (hw | hw) | (hw | hw) | (hw | hw)
    · exact secN_plain _ (by decide) _ w hw
    · exact secN_plain _ (by decide) _ w hw
    · unfold secT at hw
      split at hw
      · cases hw
      · simp only [List.mem_cons,List.not_mem_nil,or_false] at hw
        rcases hw with rfl | rfl
        · exact ink_plain (by decide)
        · exact quote_plain g4
    · exact secN_plain _ (by decide) _ w hw
    · obtain ⟨v,hv,rfl⟩:=List.mem_map.1 hw
      exact val_plain (g5 v hv)
    · exact secN_plain _ (by decide) _ w hw
    · obtain ⟨v,hv,rfl⟩:=List.mem_map.1 hw
      exact hev v (o.evs v hv)
    · exact secN_plain _ (by decide) _ w hw
    · obtain ⟨v,hv,rfl⟩:=List.mem_map.1 hw
      exact hrl v (o.rls v hv)
theorem reply_head {r : RpD} (g : goodR r) : 3 ≤ (replyL r).length ∧ ((replyL r).take (min 4 (replyL r).length) = [100,111,110,101] ↔ r.code = 0):=by
  rw [reply_t]
  have h8:=g.1.1
  have key : ∀ k : Nat,k ≤ 8 → ∃ a b c d,(codeN[k]?).getD [] = a :: b :: c :: d ∧ (a = 100 ↔ k = 0):=by
    intro k hk
    obtain rfl | rfl | rfl | rfl | rfl | rfl | rfl | rfl | rfl : k = 0 ∨ k = 1 ∨ k = 2 ∨ k = 3 ∨ k = 4 ∨ k = 5 ∨ k = 6 ∨ k = 7 ∨ k = 8:=by omega
    all_goals exact ⟨_,_,_,_,rfl,by decide⟩
  obtain ⟨a,b,c,d,e,ha⟩:=key r.code h8
  have ha : a = 100 ↔ r.code = 0:=ha
  have e : (codeN[r.code]?).getD [] = a :: b :: c :: d:=e
  refine ⟨by rw [e]; simp,?_⟩
  constructor
  · intro h
    rw [e] at h
    have : a = 100:=by
      have hm : min 4 (a :: b :: c :: d ++ t1 r).length = (min 4 (a :: b :: c :: d ++ t1 r).length - 1) + 1:=by simp; omega
      rw [hm,List.cons_append,List.take_succ_cons] at h
      exact (List.cons.inj h).1
    exact ha.1 this
  · intro h
    rw [h]
    have e0 : (codeN[0]?).getD [] = [100,111,110,101]:=rfl
    rw [e0,show min 4 ([100,111,110,101] ++ t1 r : List UInt8).length = ([100,111,110,101] : List UInt8).length by simp]
    exact List.take_left' rfl
end Go.Proofs.YtmalncmdfmoccaaGreatDoor
