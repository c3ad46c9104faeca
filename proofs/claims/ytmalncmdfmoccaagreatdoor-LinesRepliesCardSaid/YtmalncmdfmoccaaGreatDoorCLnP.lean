/- Plain: replies, and their lines. No program stands here. What the library's functions want of its variables; joins; the contract of op.ranged. Contracts of group.user and group.Parse: what gparseG says. Conditions: the library's variables (Env); a text of fewer than 2^32 - 15 bytes. -/
import Derived.Test.YtmalncmdfmoccaaGreatDoorCOpP
import Derived.Test.YtmalncmdfmoccaaGreatDoorCGiv
import Derived.Test.YtmalncmdfmoccaaGreatDoorCEqV
import Derived.Test.YtmalncmdfmoccaaGreatDoorCShw
import Derived.Test.YtmalncmdfmoccaaGreatDoorCLexO
import Derived.Test.YtmalncmdfmoccaaGreatDoorCAddrW3
import Derived.Test.YtmalncmdfmoccaaGreatDoorCGrpM
import Derived.Test.YtmalncmdfmoccaaGreatDoorCGrpF
import Derived.Test.YtmalncmdfmoccaaGreatDoorCParP
import Derived.Lib.AtoiErrMem
namespace Go.Proofs.YtmalncmdfmoccaaGreatDoor
open Go.RowKit
structure EvD where
  step : Int
  user : Int
  kind : Nat
  rect : R4
  done : Bool
  tg : Nat
structure RlD where
  step : Int
  col : Int
  row : Int
  node : Int
  fn : Nat
  rect : R4
  grant : Int
  tg : Nat
abbrev VlL:=Nat × Int × List UInt8
structure RpD where
  code : Nat
  at_ : Int
  grid : List VlL
  text : List UInt8
  evs : List EvD
  rls : List RlD
  count : Int
def yesL (d : Bool) : List UInt8:=if d = true then [121,101,115] else [110,111]
def evW (x : EvD) : List (List UInt8):=[[101,118,101,110,116],Lib.itoa x.step,Lib.itoa x.user,Lib.itoa (x.kind : Nat),rangeL x.rect,yesL x.done,gfmtL x.tg]
def evL (x : EvD) : List UInt8:=Lib.join (evW x) [32]
def rlW (x : RlD) : List (List UInt8):=[[115,104,111,119,110],Lib.itoa x.step,rangeL ⟨x.col,x.row,x.col,x.row⟩,Lib.itoa x.node,Lib.itoa (x.fn : Nat),rangeL x.rect,Lib.itoa x.grant,gfmtL x.tg]
def rlL (x : RlD) : List UInt8:=Lib.join (rlW x) [32]
def valT (v : VlL) : List UInt8:=if v.1 = 0 then [45] else if v.1 = 3 then quoteS v.2.2 else showV v.1 v.2.1 v.2.2
def goodL (v : VlL) : Prop:=cellV v.1 v.2.1 v.2.2 ∨ v = (4,7,[])
def codeN : List (List UInt8):=[[100,111,110,101],[102,111,114,109],[117,110,107,110,111,119,110],[111,117,116],[102,117,108,108],[114,101,102,117,115,101,100],[115,121,110,116,97,120],[108,105,109,105,116],[109,105,115,115,105,110,103]]
def secN (kw : List UInt8) (n : Int) : List (List UInt8):=if 0 < n then [kw,Lib.itoa n] else []
def secT (t : List UInt8) : List (List UInt8):=if t = [] then [] else [[116,101,120,116],quoteS t]
def kAt : List UInt8:=[97,116]
def kCnt : List UInt8:=[99,111,117,110,116]
def kGrid : List UInt8:=[103,114,105,100]
def kEvs : List UInt8:=[101,118,101,110,116,115]
def kRls : List UInt8:=[114,101,108,101,97,115,101,115]
def replyW (r : RpD) : List (List UInt8):=(codeN[r.code]?).getD [] :: (secN kAt r.at_ ++ (secN kCnt r.count ++ (secT r.text ++ (secN kGrid r.grid.length ++ r.grid.map valT ++ (secN kEvs r.evs.length ++ r.evs.map evL ++ (secN kRls r.rls.length ++ r.rls.map rlL))))))
def replyL (r : RpD) : List UInt8:=Lib.join (replyW r) [32]
def headB (r : RpD) : Prop:=r.code ≤ 8 ∧ 0 ≤ r.at_ ∧ 0 ≤ r.count ∧ checkT r.text = 0
def goodR (r : RpD) : Prop:=headB r ∧ ∀ v ∈ r.grid,goodL v
open Classical in
noncomputable def replyE (r : RpD) : List UInt8 × Int:=if goodR r then (replyL r,0) else ([],2)
theorem reply_yes {r : RpD} (h : goodR r) : replyE r = (replyL r,0):=if_pos h
theorem reply_no {r : RpD} (h : ¬ goodR r) : replyE r = ([],2):=if_neg h
-- bounds
structure EvD.Ok (x : EvD) : Prop where
  step : i64B x.step
  user : i64B x.user
  kind : x.kind < 256
  c1 : i64B x.rect.c1
  r1 : i64B x.rect.r1
  c2 : i64B x.rect.c2
  r2 : i64B x.rect.r2
  tg : x.tg < 18446744073709551616
structure RlD.Ok (x : RlD) : Prop where
  step : i64B x.step
  col : i64B x.col
  row : i64B x.row
  node : i64B x.node
  fn : x.fn < 256
  c1 : i64B x.rect.c1
  r1 : i64B x.rect.r1
  c2 : i64B x.rect.c2
  r2 : i64B x.rect.r2
  grant : i64B x.grant
  tg : x.tg < 18446744073709551616
structure RpD.Ok (r : RpD) : Prop where
  at_ : i64B r.at_
  count : i64B r.count
  nums : ∀ v ∈ r.grid,-9223372036854775808 ≤ v.2.1 ∧ v.2.1 ≤ 9223372036854775807
  evs : ∀ x ∈ r.evs,x.Ok
  rls : ∀ x ∈ r.rls,x.Ok
  gl : r.grid.length ≤ 1000
  el : r.evs.length ≤ 1000
  rl : r.rls.length ≤ 1000
-- the words behind the first one
def tlW (ws : List (List UInt8)) : List UInt8:=ws.flatMap fun x => 32 :: x
theorem tl_app (a b : List (List UInt8)) : tlW (a ++ b) = tlW a ++ tlW b:=by unfold tlW; rw [List.flatMap_append]
theorem tl_cons (x : List UInt8) (ws : List (List UInt8)) : tlW (x :: ws) = 32 :: (x ++ tlW ws):=rfl
def Bd (X : List UInt8) : Prop:=X = [] ∨ ∃ Z,X = 32 :: Z
theorem goodL_cases {v : VlL} (h : goodL v) : v = (0,0,[]) ∨ (∃ n,v = (1,n,[]) ∧ n ≠ -9223372036854775808) ∨ v = (2,0,[]) ∨ v = (2,1,[]) ∨ (∃ t,v = (3,0,t) ∧ checkT t = 0) ∨ v = (4,1,[]) ∨ v = (4,2,[]) ∨ v = (4,3,[]) ∨ v = (4,4,[]) ∨ v = (4,5,[]) ∨ v = (4,6,[]) ∨ v = (4,7,[]):=by
  obtain ⟨k,n,t⟩:=v
  rcases h with h | h
  · rcases h with ⟨h1,h2,h3⟩ | ⟨h1,h2,h3⟩ | ⟨h1,h2,h3⟩ | ⟨h1,h2,h3⟩ | ⟨h1,h2,h3,h4⟩
    · simp only at h1 h2 h3; subst h1 h2 h3; simp
    · simp only at h1 h2 h3; subst h1 h2; exact .inr (.inl ⟨n,rfl,h3⟩)
    · simp only at h1 h2 h3; subst h1 h2; rcases h3 with rfl | rfl <;> simp
    · simp only at h1 h2 h3; subst h1 h2; exact .inr (.inr (.inr (.inr (.inl ⟨t,rfl,h3⟩))))
    · simp only at h1 h2 h3 h4; subst h1 h2
      obtain rfl | rfl | rfl | rfl | rfl | rfl : n = 1 ∨ n = 2 ∨ n = 3 ∨ n = 4 ∨ n = 5 ∨ n = 6:=by omega
      all_goals simp
  · rw [h]; simp
def fixV : List VlL:=[(0,0,[]),(2,0,[]),(2,1,[]),(4,1,[]),(4,2,[]),(4,3,[]),(4,4,[]),(4,5,[]),(4,6,[]),(4,7,[])]
theorem good_fix {v : VlL} (h : goodL v) : v ∈ fixV ∨ (∃ n,v = (1,n,[]) ∧ n ≠ -9223372036854775808) ∨ ∃ t,v = (3,0,t) ∧ checkT t = 0:=by
  rcases goodL_cases h with rfl | h | rfl | rfl | h | rfl | rfl | rfl | rfl | rfl | rfl | rfl
  all_goals first | exact .inr (.inl h) | exact .inr (.inr h) | exact .inl (by decide)
def Kw (K : List (List UInt8)) (X : List UInt8) : Prop:=X = [] ∨ ∃ k ∈ K,∃ Z,Bd Z ∧ X = 32 :: (k ++ Z)
theorem Kw.bd {K : List (List UInt8)} {X : List UInt8} (h : Kw K X) : Bd X:=by
  rcases h with rfl | ⟨k,-,Z,-,rfl⟩
  · exact .inl rfl
  · exact .inr ⟨_,rfl⟩
theorem Kw.mono {K L : List (List UInt8)} {X : List UInt8} (h : Kw K X) (hk : ∀ k ∈ K,k ∈ L) : Kw L X:=by
  rcases h with rfl | ⟨k,h1,Z,h2,rfl⟩
  · exact .inl rfl
  · exact .inr ⟨k,hk k h1,Z,h2,rfl⟩
theorem sec_kw {K : List (List UInt8)} {kw : List UInt8} {n : Int} {X : List UInt8} (hX : Kw K X) : Kw (kw :: K) (tlW (secN kw n) ++ X):=by
  unfold secN
  split
  · refine .inr ⟨kw,by simp,32 :: (Lib.itoa n ++ X),.inr ⟨_,rfl⟩,?_⟩
    rw [tl_cons,tl_cons]; simp [tlW]
  · exact hX.mono (by simp_all)
theorem text_kw {K : List (List UInt8)} {t X : List UInt8} (hX : Kw K X) : Kw ([116,101,120,116] :: K) (tlW (secT t) ++ X):=by
  unfold secT
  split
  · exact hX.mono (by simp_all)
  · refine .inr ⟨[116,101,120,116],by simp,32 :: (quoteS t ++ X),.inr ⟨_,rfl⟩,?_⟩
    rw [tl_cons,tl_cons]; simp [tlW]
theorem list_kw {α : Type} {f : α → List UInt8} {K : List (List UInt8)} {kw : List UInt8} {l : List α} {X : List UInt8} (hX : Kw K X) : Kw (kw :: K) (tlW (secN kw l.length ++ l.map f) ++ X):=by
  rw [tl_app,List.append_assoc]
  cases l with
  | nil => exact hX.mono (by simp_all)
  | cons u l =>
    unfold secN
    rw [if_pos (by simp <;> omega)]
    refine .inr ⟨kw,by simp,32 :: (Lib.itoa ((u :: l).length : Nat) ++ (tlW ((u :: l).map f) ++ X)),.inr ⟨_,rfl⟩,?_⟩
    rw [tl_cons,tl_cons]; simp [tlW]
-- the whole line
def K6 : List (List UInt8):=[]
def K5 : List (List UInt8):=kRls :: K6
def K4 : List (List UInt8):=kEvs :: K5
def K3 : List (List UInt8):=kGrid :: K4
def K2 : List (List UInt8):=[116,101,120,116] :: K3
def K1 : List (List UInt8):=kCnt :: K2
def t6 (r : RpD) : List UInt8:=tlW (secN kRls r.rls.length ++ r.rls.map rlL) ++ []
def t5 (r : RpD) : List UInt8:=tlW (secN kEvs r.evs.length ++ r.evs.map evL) ++ t6 r
def t4 (r : RpD) : List UInt8:=tlW (secN kGrid r.grid.length ++ r.grid.map valT) ++ t5 r
def t3 (r : RpD) : List UInt8:=tlW (secT r.text) ++ t4 r
def t2 (r : RpD) : List UInt8:=tlW (secN kCnt r.count) ++ t3 r
def t1 (r : RpD) : List UInt8:=tlW (secN kAt r.at_) ++ t2 r
theorem k6 (r : RpD) : Kw K5 (t6 r):=list_kw (.inl rfl)
theorem k5 (r : RpD) : Kw K4 (t5 r):=list_kw (k6 r)
theorem k4 (r : RpD) : Kw K3 (t4 r):=list_kw (k5 r)
theorem k3 (r : RpD) : Kw K2 (t3 r):=text_kw (k4 r)
theorem k2 (r : RpD) : Kw K1 (t2 r):=sec_kw (k3 r)
theorem k1 (r : RpD) : Bd (t1 r):=(sec_kw (kw:=kAt) (k2 r)).bd
end Go.Proofs.YtmalncmdfmoccaaGreatDoor
namespace Go.Proofs.YtmalncmdfmoccaaGreatDoor
open Go.RowKit
def Env6 (w : World) : Prop:=Pow w ∧ Env w
theorem Env6.below {w w' : World} (h : Env6 w) (hb : Below w.heap.size w w') : Env6 w':=⟨h.1.below hb,h.2.below hb⟩
theorem Itoa6 (n : Int) (h : i64B n) (w : World) (he : Env6 w) :
    Calls Tryz.prog 51 #[.int .i64 n] w fun e w' => e = .returned (.string ⟨(Lib.itoa n).toArray⟩) ∧ Below w.heap.size w w' :=
  (Tryz.strconv_Itoa n h.1 h.2 w he.1).mono fun _ _ ⟨he,k,os,hw⟩ => ⟨he,hw ▸ Lib.below_grow _ _ (Nat.le_refl _) k os⟩
theorem itoa_len (n : Int) (h : i64B n) : (Lib.itoa n).length ≤ 30:=by
  have key : ∀ (k u : Nat),u < 10 ^ (k + 1) → (Lib.decDigits u).length ≤ k + 1:=by
    intro k
    induction k with
    | zero => intro u hu; rw [Lib.decDigits,dif_pos (by simpa using hu)]; simp
    | succ k ih =>
      intro u hu
      rw [Lib.decDigits]
      split
      · simp
      · have:=ih (u / 10) (by rw [Nat.pow_succ] at hu; omega)
        simp; omega
  obtain ⟨h1,h2⟩:=h
  unfold Lib.itoa
  split
  · have:=key 19 n.natAbs (by omega)
    simp; omega
  · have:=key 19 n.toNat (by omega)
    omega
theorem comma_len (r : R4) (h1 : i64B r.c1) (h2 : i64B r.r1) (h3 : i64B r.c2) (h4 : i64B r.r2) : (commaL r).length ≤ 200:=by
  have e : commaL r = Lib.itoa r.c1 ++ 44 :: (Lib.itoa r.r1 ++ 44 :: (Lib.itoa r.c2 ++ 44 :: Lib.itoa r.r2)):=by
    simp [commaL,Lib.join,List.intercalate]
  have:=itoa_len _ h1
  have:=itoa_len _ h2
  have:=itoa_len _ h3
  have:=itoa_len _ h4
  rw [e]; simp; omega
end Go.Proofs.YtmalncmdfmoccaaGreatDoor
namespace Go.Proofs.YtmalncmdfmoccaaGreatDoor
open Go.RowKit
theorem world_cases {w w' : World} {e : Nat} (h : w' = w ∨ ∃ t,w' = Lib.bytesWorld w e t) : Below w.heap.size w w':=by
  rcases h with rfl | ⟨t,rfl⟩
  · exact Below.refl _ _
  · exact Lib.bytesWorld_below _ _ _
attribute [local irreducible] readG wordG userW rightW runN gfmtL byt
end Go.Proofs.YtmalncmdfmoccaaGreatDoor
