/- The own part of ShowTight beyond the base that the claims of the seat share. -/
import Derived.Test.YtnbemkiplnanlaaGreatDoorRows
import Derived.WalkKit
import Derived.WalkSpells
import Derived.WalkLawsBesides
import Derived.Lib.Hide
import Derived.Deep.Slices
import Derived.Deep.Fields
import Derived.ChangeSame
import Derived.Lib.LaidTab
import Derived.Laws.OwnMore
import Derived.Deep.Draws
import Derived.Laws.Rows
import Derived.Deep.OwnRows
import Derived.Test.YtnbemkiplnanlaaGreatDoorMShelf
import Derived.Test.YtnbemkiplnanlaaGreatDoorMAddrP
import Derived.Lib.ItoaNum
import Derived.Test.YtnbemkiplnanlaaGreatDoorMIterV
import Derived.Test.YtnbemkiplnanlaaGreatDoorMLexP
import Derived.Test.YtnbemkiplnanlaaGreatDoorMParP
import Derived.Test.YtnbemkiplnanlaaGreatDoorMParK
import Derived.Test.YtnbemkiplnanlaaGreatDoorMShP
import Derived.Test.YtnbemkiplnanlaaGreatDoorMShO
import Derived.Test.YtnbemkiplnanlaaGreatDoorMShR
import Derived.Test.YtnbemkiplnanlaaGreatDoorMShc
import Derived.Deep.RegionHeld3
import Derived.Deep.AppendLies
import Derived.Deep.Onto
import Derived.WideMake
import Derived.Carry
import Derived.Deep.RegionHeld
import Derived.RangeFuncNested
import Derived.RangeFuncBound
import Derived.RangeFuncCalls
import Derived.RangeFuncLeaves
import Derived.RangeFuncBox
import Derived.Shelf.Abstract
import Derived.OwnWalkIn
import Derived.TacticsInMore
import Derived.LoopNIn
import Derived.LoopIn
import Derived.Maps.AppendAt
import Derived.IntWalk
import Derived.Laws.IdiomStrings
import Derived.Lib.Strings
import Derived.Test.YtnbemkiplnanlaaGreatDoorMLexC
import Derived.Laws.RangeString
import Derived.Laws.RangeAny
import Derived.Laws.BytesArg
import Derived.Lib.BufferRead
import Derived.WalkMore
import Derived.Test.YtnbemkiplnanlaaGreatDoorMLexI
import Derived.Deep.DeepCutAuto
import Derived.Stop.LaidErr
import Derived.LaidLaws
import Derived.LaidSub
import Derived.Test.YtnbemkiplnanlaaGreatDoorMVal
import Derived.Lib.IndexBytes
import Derived.Test.YtnbemkiplnanlaaGreatDoorMLexD
import Derived.Test.YtnbemkiplnanlaaGreatDoorMLexG
import Derived.Test.YtnbemkiplnanlaaGreatDoorMLexJ
import Derived.Laws.Strings3
import Derived.Test.YtnbemkiplnanlaaGreatDoorMLexK
import Derived.Lib.SmallJoins
import Derived.Shelf.Strings.Cut
import Derived.Shelf.Strings.Search2
import Derived.Shelf.Strconv.Itoa3
import Derived.Lib.AppendIntMem
import Derived.BigRegion
import Derived.Test.YtnbemkiplnanlaaGreatDoorMAddP6
import Derived.Deep.LoopGhost
import Derived.Test.YtnbemkiplnanlaaGreatDoorMLexM
import Derived.Laws.EntriesVeiled
import Derived.Test.YtnbemkiplnanlaaGreatDoorMLexN
import Derived.Test.YtnbemkiplnanlaaGreatDoorMParA
import Derived.Test.YtnbemkiplnanlaaGreatDoorMParD2
import Derived.Test.YtnbemkiplnanlaaGreatDoorMTreA
import Derived.Shelf.Strings.Builder1
import Derived.Shelf.Strings.Builder2
import Derived.Shelf.Strings.OnBuilder
import Derived.Shelf.Small.Wraps
import Derived.Shelf.Strings.BuilderF
import Derived.Shelf.Strings.BuilderK
import Derived.Shelf.Utf8.RuneCount
import Derived.Shelf.Strings.Builder2Cap
import Derived.Shelf.Strconv.Itoa0
import Derived.Shelf.Strconv.Itoa1
import Derived.Shelf.LaysM
import Derived.Shelf.Strconv.Itoa2
import Derived.Shelf.Strings.Search1
import Derived.Shelf.Strings.Search3
import Derived.Shelf.Strings.Count
import Derived.Shelf.Strings.Shaped
import Derived.Shelf.GgClosure.StringsIndexFunc
import Derived.Ground.GgwProg
import Derived.Shelf.GgClosure.StringsIndexFuncTop
import Derived.Shelf.GgClosure.StringsRunes
import Derived.Shelf.Strings.Prefix
import Derived.Shelf.Strings.Split
import Derived.Shelf.Strings.Replace
import Derived.Shelf.Strings.SplitShaped
import Derived.Shelf.Unicode.Decode
import Derived.Shelf.Strings.RuneCount
import Derived.Shelf.Bits.Mul64
import Derived.Shelf.Strings.Repeat
import Derived.Shelf.Unicode.DecodeSlow
import Derived.Shelf.Unicode.DecodeAny
import Derived.Shelf.Strings.FuncGrows
import Derived.Shelf.Strings.BuilderCap
import Derived.Shelf.Slices.Turned
import Derived.Test.YtnbemkiplnanlaaGreatDoorProg
import Derived.Lib.Replace
import Derived.Test.YtnbemkiplnanlaaGreatDoorMLexO
import Derived.Laws.StructEq
import Derived.Test.YtnbemkiplnanlaaGreatDoorMEqV
import Derived.Lib.AppendStr
import Derived.Test.YtnbemkiplnanlaaGreatDoorMDecF
import Derived.Test.YtnbemkiplnanlaaGreatDoorMShw
import Derived.Test.YtnbemkiplnanlaaGreatDoorMSgn
import Derived.Test.YtnbemkiplnanlaaGreatDoorMAddrW3
import Derived.Test.YtnbemkiplnanlaaGreatDoorMTreB
import Derived.Test.YtnbemkiplnanlaaGreatDoorMGiv
import Derived.Test.YtnbemkiplnanlaaGreatDoorMNdF
import Derived.Test.YtnbemkiplnanlaaGreatDoorMTwk
import Derived.Test.YtnbemkiplnanlaaGreatDoorMTwd
import Derived.OpenShut
import Derived.Test.YtnbemkiplnanlaaGreatDoorMShn
import Derived.Test.YtnbemkiplnanlaaGreatDoorMForB
import Derived.Test.YtnbemkiplnanlaaGreatDoorMLit
import Derived.Test.YtnbemkiplnanlaaGreatDoorMTxt
import Derived.Test.YtnbemkiplnanlaaGreatDoorMTxu
import Derived.Test.YtnbemkiplnanlaaGreatDoorMTxv
import Derived.Test.YtnbemkiplnanlaaGreatDoorMOut
import Derived.Test.YtnbemkiplnanlaaGreatDoorMRds
import Derived.Test.YtnbemkiplnanlaaGreatDoorMParB
import Derived.Defers
import Derived.Recover
import Derived.Test.YtnbemkiplnanlaaGreatDoorMParE
import Derived.Test.YtnbemkiplnanlaaGreatDoorMParF
import Derived.Test.YtnbemkiplnanlaaGreatDoorMParG
import Derived.Test.YtnbemkiplnanlaaGreatDoorMParH
import Derived.Test.YtnbemkiplnanlaaGreatDoorMParI
import Derived.ChangeArms
import Derived.Test.YtnbemkiplnanlaaGreatDoorMNdG
import Derived.Test.YtnbemkiplnanlaaGreatDoorMFew
namespace Go.Proofs.YtnbemkiplnanlaaGreatDoor
open Go.RowKit
def pcN : List Tk → Nat
 | [] => 0
 | t :: ts => (if t.kind = 9 then 1 else 0) + pcN ts
theorem pc_app (a b : List Tk) : pcN (a ++ b) = pcN a + pcN b:=by
 induction a with
 | nil => show pcN b = 0 + pcN b; omega
 | cons t a ih => show _ + pcN (a ++ b) = _ + pcN a + pcN b; rw [ih]; omega
theorem pc_skip {t : Tk} (h : t.kind ≠ 9) (ts : List Tk) : pcN (t :: ts) = pcN ts:=by
 show (if t.kind = 9 then 1 else 0) + pcN ts = _
 rw [if_neg h]; omega
theorem pc_pr (l : Nat) (e : En) : pcN (prO l e) = pcN e.ts + if l ≤ e.s then 0 else 1:=by
 unfold prO
 by_cases h : l ≤ e.s
 ·rw [if_pos h,if_pos h]; rfl
 ·rw [if_neg h,if_neg h]
  show 1 + pcN (e.ts ++ [tkR]) = _
  rw [pc_app,pc_skip (t:=tkR) (by decide)]
  show 1 + (pcN e.ts + 0) = _
  omega
theorem pc_mono {l k : Nat} (h : l ≤ k) (e : En) : pcN (prO l e) ≤ pcN (prO k e):=by
 rw [pc_pr,pc_pr]
 split <;> split <;> omega
theorem pc_low (l : Nat) (e : En) : pcN e.ts ≤ pcN (prO l e):=by rw [pc_pr]; omega
theorem pc_high (l k : Nat) (e : En) : pcN (prO l e) ≤ pcN (prO k e) + 1:=by
 rw [pc_pr,pc_pr]
 split <;> split <;> omega
theorem pc_pct : ∀ u : List Tk,pcN (pctS u).1 = pcN u
 | [] => rfl
 | t :: u => by
  rw [pctS]
  split
  next h => show pcN (pctS u).1 = _; rw [pc_pct u,pc_skip (by omega)]
  ·rfl
theorem comW_app : ∀ (a b : List Nd) (es : List En),comW (a ++ b) es = comW b (comW a es)
 | [],_,_ => rfl
 | n :: a,b,es => by rw [List.cons_append,comW,comW,comW_app a b]
theorem comW_0 (n : Nd) (h : belowS n = 0) (es : List En) : comW [n] es = es ++ [comE n []]:=by
 rw [comW,comW,h]
 simp
theorem comW_1 (n : Nd) (h : belowS n = 1) (es : List En) (x : En) : comW [n] (es ++ [x]) = es ++ [comE n [x]]:=by
 rw [comW,comW,h]
 simp
theorem comW_2 (n : Nd) (h : belowS n = 2) (es : List En) (x y : En) : comW [n] (es ++ [x] ++ [y]) = es ++ [comE n [x,y]]:=by
 rw [comW,comW,h]
 simp
theorem comW_n (n : Nd) (es xs : List En) (h : belowS n = xs.length) : comW [n] (es ++ xs) = es ++ [comE n xs]:=by
 rw [comW,comW,h]
 simp
def lvM : Md → Nat
 | .lv k => min k 5
 | .ops k => k
 | .sg => 5
 | .pc => 7
 | .pr => 8
 | .args _ _ => 0
def PcM (m : Md) (ts u : List Tk) (ns : List Nd) (n : Nat) : Prop:=match m with
 | .ops k => ∀ x : En,∃ y : En,(∀ es,comW ns (es ++ [x]) = es ++ [y]) ∧ pcN (prO k y) + pcN u ≤ pcN ts + pcN (prO k x)
 | .args _ i => ∃ xs : List En,xs ≠ [] ∧ i + xs.length = n ∧ (∀ es,comW ns es = es ++ xs) ∧ pcN (arJ xs) + pcN u ≤ pcN ts
 | m => ∃ e : En,(∀ es,comW ns es = es ++ [e]) ∧ pcN (prO (lvM m) e) + pcN u ≤ pcN ts
theorem pct_run : ∀ (j : Nat) (e : En),∃ e2 : En,(∀ es,comW (List.replicate j ndPct) (es ++ [e]) = es ++ [e2]) ∧ pcN (prO 7 e2) ≤ pcN (prO 7 e)
 | 0,e => ⟨e,fun _ => rfl,Nat.le_refl _⟩
 | j + 1,e => by
  obtain ⟨e2,h1,h2⟩:=pct_run j (comE ndPct [e])
  refine ⟨e2,fun es => ?_,?_⟩
  ·rw [List.replicate_succ]
   show comW ([ndPct] ++ List.replicate j ndPct) (es ++ [e]) = _
   rw [comW_app,comW_1 ndPct rfl,h1]
  ·have : pcN (prO 7 (comE ndPct [e])) = pcN (prO 7 e):=by
    show pcN (prO 7 ⟨prO 7 e ++ [tkO 13],7⟩) = _
    rw [pc_pr,pc_app]
    show pcN (prO 7 e) + 0 + 0 = _
    omega
   omega
end Go.Proofs.YtnbemkiplnanlaaGreatDoor
namespace Go.Proofs.YtnbemkiplnanlaaGreatDoor
open Go.RowKit
def okK : Md → Prop
 | .lv k => 1 ≤ k
 | .ops k => 1 ≤ k ∧ k ≤ 4
 | _ => True
theorem pc_one {t : Tk} (h : t.kind = 9) (ts : List Tk) : pcN (t :: ts) = 1 + pcN ts:=by
 show (if t.kind = 9 then 1 else 0) + pcN ts = _
 rw [if_pos h]
theorem pc_keep {l : Nat} {e : En} (h : l ≤ e.s) : pcN (prO l e) = pcN e.ts:=by rw [pc_pr,if_pos h]; rfl
theorem pc_at (l : Nat) (ts : List Tk) (s : Nat) (h : l ≤ s) : pcN (prO l ⟨ts,s⟩) = pcN ts:=pc_keep h
theorem pc_bin (k : Nat) (op : Int) (x y : En) (hk : bindS op = k) (h4 : k ≤ 4) : pcN (prO k (comE (ndBin op) [x,y])) = pcN (prO k x) + pcN (prO (k + 1) y):=by
 have h5 : op ≠ 5:=by rintro rfl; exact absurd hk (by rw [show bindS 5 = 6 from rfl]; omega)
 have e : comE (ndBin op) [x,y] = ⟨prO k x ++ tkO op :: prO (k + 1) y,k⟩:=by
  rw [← hk]
  exact if_neg h5
 rw [e,pc_at _ _ _ (Nat.le_refl _),pc_app,pc_skip (t:=tkO op) (by show (8 : Nat) ≠ 9; decide)]
theorem pc_all {m : Md} {ts u : List Tk} {ns : List Nd} {n : Nat} (h : Pk m ts u ns n) : okK m → PcM m ts u ns n:=by
 induction h with
 | @lv5 k ts u ns n hk h ih =>
  intro _
  obtain ⟨e,h1,h2⟩:=ih trivial
  refine ⟨e,h1,?_⟩
  show pcN (prO (min k 5) e) + _ ≤ _
  rw [Nat.min_eq_right hk]; exact h2
 | @lv k ts u v ns ms n m hk h g ih ig =>
  intro h0
  have h0 : 1 ≤ k:=h0
  obtain ⟨e,h1,h2⟩:=ih (by show 1 ≤ k + 1; omega)
  obtain ⟨y,g1,g2⟩:=ig ⟨h0,by omega⟩ e
  refine ⟨y,fun es => by rw [comW_app,h1,g1],?_⟩
  have h2 : pcN (prO (min (k + 1) 5) e) + pcN u ≤ pcN ts:=h2
  rw [Nat.min_eq_left (by omega)] at h2
  show pcN (prO (min k 5) y) + _ ≤ _
  rw [Nat.min_eq_left (by omega)]
  have:=pc_mono (show k ≤ k + 1 by omega) e
  omega
 | nil => intro _ x; exact ⟨x,fun _ => rfl,by show _ + 0 ≤ 0 + _; omega⟩
 | stop hk => intro _ x; exact ⟨x,fun _ => rfl,by omega⟩
 | @op k t ts u v ns ms n m h8 hk h g ih ig =>
  intro h0 x
  obtain ⟨e,h1,h2⟩:=ih (by show 1 ≤ k + 1; omega)
  obtain ⟨y,g1,g2⟩:=ig h0 (comE (ndBin t.num) [x,e])
  have h2 : pcN (prO (min (k + 1) 5) e) + pcN u ≤ pcN ts:=h2
  have h4:=h0.2
  rw [Nat.min_eq_left (by omega)] at h2
  refine ⟨y,fun es => ?_,?_⟩
  ·rw [comW_app,h1]
   show comW ([ndBin t.num] ++ ms) _ = _
   rw [comW_app,comW_2 (ndBin t.num) rfl,g1]
  ·rw [pc_bin k t.num x e hk h4] at g2
   rw [pc_skip (by omega)]
   omega
 | @neg t ts u ns n h8 h2 h ih =>
  intro _
  obtain ⟨e,h1,g⟩:=ih trivial
  refine ⟨comE ndNeg [e],fun es => by rw [comW_app,h1,comW_1 ndNeg rfl],?_⟩
  show pcN (prO 5 ⟨tkO 2 :: prO 5 e,5⟩) + _ ≤ _
  rw [pc_at _ _ _ (Nat.le_refl _),pc_skip (t:=tkO 2) (by decide),pc_skip (t:=t) (by omega)]
  exact g
 | bare hn h h5 ih =>
  intro _
  obtain ⟨e,h1,g⟩:=ih trivial
  refine ⟨e,h1,?_⟩
  have:=pc_mono (show 5 ≤ 7 by decide) e
  have g : pcN (prO 7 e) + _ ≤ _:=g
  show pcN (prO 5 e) + _ ≤ _
  omega
 | @pow t ts u v ns ms n m hn h h8 h5 g ih ig =>
  intro _
  obtain ⟨e1,h1,q1⟩:=ih trivial
  obtain ⟨e2,h2,q2⟩:=ig trivial
  have q1 : pcN (prO 7 e1) + pcN (t :: u) ≤ pcN ts:=q1
  have q2 : pcN (prO 5 e2) + pcN v ≤ pcN u:=q2
  rw [pc_skip (by omega)] at q1
  refine ⟨comE (ndBin 5) [e1,e2],fun es => by rw [comW_app,h1,comW_app,h2,comW_2 (ndBin 5) rfl],?_⟩
  show pcN (prO 5 ⟨prO 7 e1 ++ tkO 5 :: prO 5 e2,6⟩) + _ ≤ _
  rw [pc_at _ _ _ (show 5 ≤ 6 by decide),pc_app,pc_skip (t:=tkO 5) (by decide)]
  omega
 | @pc ts u ns n h ih =>
  intro _
  obtain ⟨e,h1,g⟩:=ih trivial
  obtain ⟨e2,g1,g2⟩:=pct_run (pctS u).2 e
  refine ⟨e2,fun es => by rw [comW_app,h1,g1],?_⟩
  have:=pc_mono (show 7 ≤ 8 by decide) e
  have g : pcN (prO 8 e) + _ ≤ _:=g
  show pcN (prO 7 e2) + _ ≤ _
  rw [pc_pct]
  omega
 | @val t ts h1 h4 =>
  intro _
  refine ⟨comE (ndVal t) [],fun es => comW_0 (ndVal t) rfl es,?_⟩
  show pcN (prO 8 ⟨[tkV (ndVal t)],8⟩) + _ ≤ _
  have hk : (tkV (ndVal t)).kind ≠ 9:=by
   have g : t.kind = 1 ∨ t.kind = 2 ∨ t.kind = 3 ∨ t.kind = 4:=by omega
   rcases g with g | g | g | g <;> simp [tkV,ndVal,g]
  rw [pc_at _ _ _ (Nat.le_refl _),pc_skip hk,pc_skip (t:=t) (by omega)]
  show 0 + _ ≤ _
  omega
 | @ref t ts h5 =>
  intro _
  refine ⟨comE (ndRef t.r) [],fun es => comW_0 (ndRef t.r) rfl es,?_⟩
  show pcN (prO 8 ⟨[⟨5,0,[],t.r,0⟩],8⟩) + _ ≤ _
  rw [pc_at _ _ _ (Nat.le_refl _),pc_skip (t:=⟨5,0,[],t.r,0⟩) (by show (5 : Nat) ≠ 9; decide),pc_skip (t:=t) (by omega)]
  show 0 + _ ≤ _
  omega
 | @par t c ts u ns n h9 h hc ih =>
  intro _
  obtain ⟨e,h1,g⟩:=ih (Nat.le_refl 1)
  refine ⟨e,h1,?_⟩
  have g : pcN (prO 1 e) + pcN (c :: u) ≤ pcN ts:=g
  rw [pc_skip (by omega)] at g
  have:=pc_high 8 1 e
  show pcN (prO 8 e) + _ ≤ _
  rw [pc_one h9]
  omega
 | @call t o c ts u ns n h7 hf ho h hc h1 h2 hd ih =>
  intro _
  obtain ⟨xs,hx,hl,g1,g2⟩:=ih trivial
  rw [pc_skip (by omega)] at g2
  refine ⟨comE (ndCall (fnS t.text) n) xs,fun es => by rw [comW_app,g1,comW_n _ _ _ (by show n = xs.length; omega)],?_⟩
  show pcN (prO 8 ⟨tkN (fnS t.text) :: tkL :: (arJ xs ++ [tkR]),8⟩) + _ ≤ _
  rw [pc_at _ _ _ (Nat.le_refl _),pc_skip (t:=tkN _) (by show (7 : Nat) ≠ 9; decide),pc_one (t:=tkL) rfl,pc_app,pc_skip (t:=tkR) (by decide),pc_skip (t:=t) (by omega),pc_one ho]
  show 1 + (pcN (arJ xs) + 0) + _ ≤ _
  omega
 | @argE fn i ts u ns n h6 h hc ih =>
  intro _
  obtain ⟨e,h1,g⟩:=ih (Nat.le_refl 1)
  have g : pcN (prO 1 e) + pcN u ≤ pcN ts:=g
  have:=pc_low 1 e
  exact ⟨[e],by simp,rfl,h1,by show pcN e.ts + _ ≤ _; omega⟩
 | @argC fn i c ts u v ns ms n m h6 h hc g ih ig =>
  intro _
  obtain ⟨e,h1,q⟩:=ih (Nat.le_refl 1)
  obtain ⟨xs,hx,hl,g1,g2⟩:=ig trivial
  have q : pcN (prO 1 e) + pcN (c :: u) ≤ pcN ts:=q
  rw [pc_skip (by omega)] at q
  have:=pc_low 1 e
  refine ⟨e :: xs,by simp,by rw [List.length_cons]; omega,fun es => by rw [comW_app,h1,g1]; simp,?_⟩
  cases xs with
  | nil => exact absurd rfl hx
  | cons x xs =>
   show pcN (e.ts ++ tkC :: arJ (x :: xs)) + _ ≤ _
   rw [pc_app,pc_skip (t:=tkC) (by decide)]
   omega
 | @rngE fn i t ts h6 hw hc =>
  intro _
  refine ⟨[comE (ndRange t.r) []],by simp,rfl,fun es => comW_0 (ndRange t.r) rfl es,?_⟩
  rw [pc_skip (t:=t) (by omega)]
  show 0 + 0 + _ ≤ _
  omega
 | @rngC fn i t c u v ms m h6 hw hc g ig =>
  intro _
  obtain ⟨xs,hx,hl,g1,g2⟩:=ig trivial
  refine ⟨comE (ndRange t.r) [] :: xs,by simp,by rw [List.length_cons]; omega,fun es => ?_,?_⟩
  ·show comW ([ndRange t.r] ++ ms) es = _
   rw [comW_app,comW_0 (ndRange t.r) rfl,g1]; simp
  ·rw [pc_skip (t:=t) (by omega),pc_skip (t:=c) (by omega)]
   cases xs with
   | nil => exact absurd rfl hx
   | cons x xs =>
    show pcN ([⟨6,0,[],t.r,0⟩] ++ tkC :: arJ (x :: xs)) + _ ≤ _
    rw [pc_app,pc_skip (t:=tkC) (by decide)]
    show 0 + 0 + _ + _ ≤ _
    omega
theorem pc_least {t : List Nd} {ts : List Tk} {n : Nat} (hp : Pk (.lv 1) ts [] t n) : ∃ e : En,comW t [] = [e] ∧ pcN e.ts ≤ pcN ts:=by
 obtain ⟨e,h1,h2⟩:=pc_all hp (Nat.le_refl 1)
 have g : pcN (prO 1 e) + 0 ≤ pcN ts:=h2
 have:=pc_low 1 e
 exact ⟨e,h1 [],by omega⟩
end Go.Proofs.YtnbemkiplnanlaaGreatDoor
namespace Go.Proofs.YtnbemkiplnanlaaGreatDoor
open Go.RowKit
def qSt : Bool → List UInt8 → Bool
 | q,[] => q
 | q,b :: l => qSt (if b = 34 then !q else q) l
def pQs : Bool → List UInt8 → List Bool
 | _,[] => []
 | q,b :: l => (if q = false ∧ b = 40 then [true] else if q = false ∧ b = 41 then [false] else []) ++ pQs (if b = 34 then !q else q) l
theorem qSt_app (q : Bool) (a b : List UInt8) : qSt q (a ++ b) = qSt (qSt q a) b:=by
 induction a generalizing q with
 | nil => rfl
 | cons x a ih => exact ih _
theorem pQs_app (q : Bool) (a b : List UInt8) : pQs q (a ++ b) = pQs q a ++ pQs (qSt q a) b:=by
 induction a generalizing q with
 | nil => rfl
 | cons x a ih =>
  show _ ++ pQs _ (a ++ b) = (_ ++ pQs _ a) ++ _
  rw [ih,List.append_assoc]
  rfl
def calmB (b : UInt8) : Bool:=decide (b ≠ 34 ∧ b ≠ 40 ∧ b ≠ 41)
theorem calm_all {l : List UInt8} (h : ∀ b ∈ l,calmB b = true) (q : Bool) : qSt q l = q ∧ pQs q l = []:=by
 induction l with
 | nil => exact ⟨rfl,rfl⟩
 | cons b l ih =>
  have hb : b ≠ 34 ∧ b ≠ 40 ∧ b ≠ 41:=of_decide_eq_true (h b (by simp))
  obtain ⟨i1,i2⟩:=ih fun x hx => h x (by simp [hx])
  constructor
  ·show qSt (if b = 34 then !q else q) l = q
   rw [if_neg hb.1,i1]
  ·show _ ++ pQs (if b = 34 then !q else q) l = []
   rw [if_neg hb.1,if_neg (fun e => hb.2.1 e.2),if_neg (fun e => hb.2.2 e.2),i2]
   rfl
theorem wrd_calm (b : UInt8) (h : isWrd b = true) : calmB b = true:=by
 have key : ∀ n : Fin 256,isWrd (UInt8.ofNat n.1) = true → calmB (UInt8.ofNat n.1) = true:=by decide +kernel
 have:=key ⟨b.toNat,b.toNat_lt⟩
 simpa using this (by simpa using h)
theorem dig_calm (b : UInt8) (h : isDig b = true) : calmB b = true:=wrd_calm b (by unfold isWrd; rw [h,Bool.or_true])
theorem up_calm (b : UInt8) (h : calmB (upB b) = true) : calmB b = true:=by
 have key : ∀ n : Fin 256,calmB (upB (UInt8.ofNat n.1)) = true → calmB (UInt8.ofNat n.1) = true:=by decide +kernel
 have:=key ⟨b.toNat,b.toNat_lt⟩
 simpa using this (by simpa using h)
theorem in_quotes (l : List UInt8) : qSt true (l.flatMap quoteB) = true ∧ pQs true (l.flatMap quoteB) = []:=by
 induction l with
 | nil => exact ⟨rfl,rfl⟩
 | cons b l ih =>
  rw [List.flatMap_cons]
  by_cases h : b = 34
  ·subst h
   have e : quoteB 34 = [34,34]:=rfl
   rw [e]
   exact ih
  ·have e : quoteB b = [b]:=by unfold quoteB; rw [if_neg h]
   rw [e]
   show qSt (if b = 34 then !true else true) _ = true ∧ (_ ++ pQs (if b = 34 then !true else true) _) = []
   rw [if_neg h,if_neg (fun g => by cases g.1),if_neg (fun g => by cases g.1)]
   exact ih
def tkP (t : Tk) : List Bool:=if t.kind = 9 then [true] else if t.kind = 10 then [false] else []
theorem calm_tk {x : List UInt8} {t : Tk} (h : ∀ b ∈ x,calmB b = true) (h9 : t.kind ≠ 9) (h10 : t.kind ≠ 10) : qSt false x = false ∧ pQs false x = tkP t:=by
 obtain ⟨a,b⟩:=calm_all h false
 exact ⟨a,by rw [b]; unfold tkP; rw [if_neg h9,if_neg h10]⟩
theorem word_paren {l : List UInt8} {k : Nat} {t : Tk} {n : Nat} (h : wordS l k = some (t,n)) : (∀ b ∈ l.take n,calmB b = true) ∧ t.kind ≠ 9 ∧ t.kind ≠ 10:=by
 obtain ⟨hl,hw,hd⟩:=run_split isWrd l
 have one : l.take (l.takeWhile isWrd).length = l.takeWhile isWrd:=by
  conv => lhs; rw [hl]
  rw [List.takeWhile_append_dropWhile]
  conv => lhs; arg 2; rw [← List.takeWhile_append_dropWhile (p:=isWrd) (l:=l)]
  exact List.take_left' rfl
 have c1 : ∀ b ∈ l.takeWhile isWrd,calmB b = true:=fun b hb => wrd_calm b (hw b hb)
 unfold wordS at h
 simp only at h
 split at h
 ·obtain ⟨rfl,rfl⟩:=Prod.mk.inj (Option.some.inj h)
  rw [one]; exact ⟨c1,by simp,by simp⟩
 split at h
 ·obtain ⟨rfl,rfl⟩:=Prod.mk.inj (Option.some.inj h)
  rw [one]; exact ⟨c1,by simp,by simp⟩
 split at h
 ·obtain ⟨rfl,rfl⟩:=Prod.mk.inj (Option.some.inj h)
  rw [one]; exact ⟨c1,by simp,by simp⟩
 split at h
 ·cases h
 split at h
 ·obtain ⟨rfl,rfl⟩:=Prod.mk.inj (Option.some.inj h)
  rw [one]; exact ⟨c1,by simp,by simp⟩
 ·rename_i c r m hs
  obtain ⟨q,hq,ha⟩:=second_parts hs
  obtain ⟨w2,d2,hq2,hw2,-,hm,-⟩:=addr_parts ha
  obtain ⟨rfl,rfl⟩:=Prod.mk.inj (Option.some.inj h)
  refine ⟨?_,by show (if _ then 5 else 6) ≠ 9; split <;> decide,by show (if _ then 5 else 6) ≠ 10; split <;> decide⟩
  have e : l = (l.takeWhile isWrd ++ (58 :: w2)) ++ d2:=by
   rw [List.append_assoc]
   show l = _ ++ 58 :: (w2 ++ d2)
   rw [← hq2,← hq]; exact hl
  have e2 : l.take ((l.takeWhile isWrd).length + 1 + m) = l.takeWhile isWrd ++ (58 :: w2):=by
   generalize l.takeWhile isWrd = w at e
   rw [e]
   exact List.take_left' (by simp [hm]; omega)
  rw [e2]
  intro b hb
  rcases List.mem_append.1 hb with hb | hb
  ·exact c1 b hb
  rcases List.mem_cons.1 hb with rfl | hb
  ·decide
  ·exact wrd_calm b (hw2 b hb)
theorem op_paren {l : List UInt8} {k : Nat} {v : Int} {n : Nat} (h : opS l = some (k,v,n)) (t : Tk) (ht : t.kind = k) : qSt false (l.take n) = false ∧ pQs false (l.take n) = tkP t:=by
 cases l with
 | nil => cases h
 | cons b r =>
  have two : ∀ (c : UInt8) (k : Nat),r.head? = some c → calmB b = true → calmB c = true → t.kind = 8 → qSt false ((b :: r).take 2) = false ∧ pQs false ((b :: r).take 2) = tkP t:=by
   intro c k hc h1 h2 h8
   obtain ⟨r',rfl⟩ : ∃ r',r = c :: r':=by
    cases r with
    | nil => cases hc
    | cons d r' => exact ⟨r',by rw [Option.some.inj hc]⟩
   refine calm_tk (fun x hx => ?_) (by omega) (by omega)
   have hx : x ∈ [b,c]:=hx
   simp only [List.mem_cons,List.not_mem_nil,or_false] at hx
   rcases hx with rfl | rfl <;> assumption
  have one : calmB b = true → t.kind = 8 ∨ t.kind = 11 → qSt false ((b :: r).take 1) = false ∧ pQs false ((b :: r).take 1) = tkP t:=by
   intro h1 h8
   refine calm_tk (fun x hx => ?_) (by omega) (by omega)
   have hx : x ∈ [b]:=hx
   rw [List.mem_singleton] at hx; subst hx; exact h1
  rw [op_cons] at h
  by_cases h60 : b = 60
  ·rw [if_pos h60] at h
   have cb : calmB b = true:=by rw [h60]; decide
   split at h
   next e =>
    obtain ⟨rfl,e2⟩:=Prod.mk.inj (Option.some.inj h)
    obtain ⟨rfl,rfl⟩:=Prod.mk.inj e2
    exact two 62 8 e cb (by decide) ht
   split at h
   next e =>
    obtain ⟨rfl,e2⟩:=Prod.mk.inj (Option.some.inj h)
    obtain ⟨rfl,rfl⟩:=Prod.mk.inj e2
    exact two 61 8 e cb (by decide) ht
   ·obtain ⟨rfl,e2⟩:=Prod.mk.inj (Option.some.inj h)
    obtain ⟨rfl,rfl⟩:=Prod.mk.inj e2
    exact one cb (.inl ht)
  rw [if_neg h60] at h
  by_cases h62 : b = 62
  ·rw [if_pos h62] at h
   have cb : calmB b = true:=by rw [h62]; decide
   split at h
   next e =>
    obtain ⟨rfl,e2⟩:=Prod.mk.inj (Option.some.inj h)
    obtain ⟨rfl,rfl⟩:=Prod.mk.inj e2
    exact two 61 8 e cb (by decide) ht
   ·obtain ⟨rfl,e2⟩:=Prod.mk.inj (Option.some.inj h)
    obtain ⟨rfl,rfl⟩:=Prod.mk.inj e2
    exact one cb (.inl ht)
  rw [if_neg h62] at h
  have hn:=op1_len h
  subst hn
  obtain ⟨x,hx,e⟩:=Option.map_eq_some_iff.1 h
  obtain ⟨e1,-⟩:=Prod.mk.inj e
  have hm:=List.mem_of_find?_eq_some hx
  have hb : (x.1 == b) = true:=List.find?_some (p:=fun y : UInt8 × Nat × Int => y.1 == b) hx
  have hb : x.1 = b:=by simpa using hb
  have key : ∀ y ∈ opTab,(calmB y.1 = true ∧ (y.2.1 = 8 ∨ y.2.1 = 11)) ∨ (y.1 = 40 ∧ y.2.1 = 9) ∨ (y.1 = 41 ∧ y.2.1 = 10):=by decide
  rcases key x hm with ⟨g1,g2⟩ | ⟨g1,g2⟩ | ⟨g1,g2⟩
  ·exact one (hb ▸ g1) (by omega)
  ·have : b = 40:=by rw [← hb,g1]
   subst this
   have h9 : t.kind = 9:=by omega
   exact ⟨rfl,by unfold tkP; rw [if_pos h9]; rfl⟩
  ·have : b = 41:=by rw [← hb,g1]
   subst this
   have h9 : t.kind = 10:=by omega
   exact ⟨rfl,by unfold tkP; rw [if_neg (by omega),if_pos h9]; rfl⟩
theorem tok_paren {l : List UInt8} {k : Nat} {t : Tk} {n : Nat} (h : tokS k l = some (t,n)) : qSt false (l.take n) = false ∧ pQs false (l.take n) = tkP t:=by
 cases l with
 | nil => cases h
 | cons b r =>
  rw [tok_cons] at h
  by_cases h1 : isDig b = true
  ·rw [if_pos h1] at h
   obtain ⟨q,hq,e⟩:=Option.map_eq_some_iff.1 h
   obtain ⟨e1,e2⟩:=Prod.mk.inj e
   obtain ⟨w,p,e',hw,hp,-,-,-,-,-,hc⟩:=num_parts (l:=b :: r) (v:=q.1) (n:=q.2) hq
   subst e2
   refine calm_tk (fun x hx => ?_) (by rw [← e1]; simp) (by rw [← e1]; simp)
   rcases hc with ⟨-,hl,hn,-⟩ | ⟨-,hl,hn⟩
   ·have e3 : (b :: r).take q.2 = w:=by rw [hl]; exact List.take_left' hn.symm
    rw [e3] at hx
    exact dig_calm x (hw x hx)
   ·have e3 : (b :: r).take q.2 = w ++ 46 :: p:=by
     rw [hl,show w ++ 46 :: (p ++ e') = (w ++ 46 :: p) ++ e' by simp]
     exact List.take_left' (by simp [hn])
    rw [e3] at hx
    rcases List.mem_append.1 hx with hx | hx
    ·exact dig_calm x (hw x hx)
    rcases List.mem_cons.1 hx with rfl | hx
    ·decide
    ·exact dig_calm x (hp x hx)
  rw [if_neg h1] at h
  by_cases h2 : b = 34
  ·rw [if_pos h2] at h
   obtain ⟨q,hq,e⟩:=Option.map_eq_some_iff.1 h
   obtain ⟨e1,e2⟩:=Prod.mk.inj e
   have hu:=unq_quote _ r q.1 q.2 (Nat.le_refl _) hq
   subst e2 h2
   have e3 : (34 :: r).take (q.2 + 1) = 34 :: (q.1.flatMap quoteB ++ [34]):=by rw [List.take_succ_cons,← hu]
   rw [e3]
   obtain ⟨i1,i2⟩:=in_quotes q.1
   have g1 : qSt false (34 :: (q.1.flatMap quoteB ++ [34])) = false:=by
    show qSt true (q.1.flatMap quoteB ++ [34]) = false
    rw [qSt_app,i1]; rfl
   have g2 : pQs false (34 :: (q.1.flatMap quoteB ++ [34])) = []:=by
    show pQs true (q.1.flatMap quoteB ++ [34]) = []
    rw [pQs_app,i1,i2]; rfl
   exact ⟨g1,by rw [g2,← e1]; rfl⟩
  rw [if_neg h2] at h
  by_cases h3 : isLet b = true
  ·rw [if_pos h3] at h
   obtain ⟨a1,a2,a3⟩:=word_paren h
   exact calm_tk a1 a2 a3
  rw [if_neg h3] at h
  cases he : errS (b :: r) with
  | some q =>
   obtain ⟨c,m⟩:=q
   rw [he] at h
   obtain ⟨e1,e2⟩:=Prod.mk.inj (Option.some.inj h)
   subst e2
   obtain ⟨i,x,hx,-,hm,hu,-⟩:=err_parts _ _ he
   have key : ∀ u ∈ errNames,∀ b ∈ u,calmB b = true:=by decide
   have hk:=key x (List.mem_of_getElem? hx)
   refine calm_tk (fun y hy => ?_) (by rw [← e1]; simp) (by rw [← e1]; simp)
   rw [hm] at hy
   refine up_calm y (hk _ ?_)
   rw [← hu]
   exact List.mem_map_of_mem hy
  | none =>
   rw [he] at h
   obtain ⟨q,hq,e⟩:=Option.map_eq_some_iff.1 h
   obtain ⟨q1,q2,q3⟩:=q
   obtain ⟨e1,e2⟩:=Prod.mk.inj e
   have e2 : q3 = n:=e2
   subst e2
   exact op_paren hq t (by rw [← e1])
theorem lex_paren {k : Nat} {u : List UInt8} {l : List Tk} {y : List UInt8} (h : Lex k u l y) : qSt false u = false ∧ pQs false u = l.flatMap tkP:=by
 induction h with
 | nil => exact ⟨rfl,rfl⟩
 | @blank k u l y h ih => exact ih
 | @tok k b x u t l y h g ih =>
  have e : (b :: (x ++ (u ++ y))).take (x.length + 1) = b :: x:=by
   rw [List.take_succ_cons]
   congr 1
   exact List.take_left' rfl
  have:=tok_paren h
  rw [e] at this
  show qSt false ((b :: x) ++ u) = false ∧ pQs false ((b :: x) ++ u) = _
  rw [qSt_app,pQs_app,this.1,this.2,List.flatMap_cons]
  exact ⟨ih.1,by rw [ih.2]⟩
def cntP (l : List Bool) : Nat:=l.count true
theorem cnt_tks (l : List Tk) : cntP (l.flatMap tkP) = pcN l:=by
 induction l with
 | nil => rfl
 | cons t l ih =>
  rw [List.flatMap_cons]
  unfold cntP at ih ⊢
  rw [List.count_append,ih]
  show _ = (if t.kind = 9 then 1 else 0) + pcN l
  unfold tkP
  by_cases h : t.kind = 9
  ·rw [if_pos h,if_pos h]; rfl
  ·rw [if_neg h,if_neg h]
   split <;> rfl
def netP : List Bool → Int
 | [] => 0
 | b :: l => (if b then 1 else -1) + netP l
theorem net_app (a b : List Bool) : netP (a ++ b) = netP a + netP b:=by
 induction a with
 | nil => rw [List.nil_append]; show _ = 0 + _; omega
 | cons x a ih => show _ + netP (a ++ b) = _ + netP a + _; rw [ih]; omega
def NnP (l : List Bool) : Prop:=netP l = 0 ∧ ∀ x y,l = x ++ y → 0 ≤ netP x
theorem NnP.nil : NnP []:=⟨rfl,fun x y h => by
 have:=(List.append_eq_nil_iff.1 h.symm).1
 subst this; exact Int.le_refl _⟩
theorem NnP.app {a b : List Bool} (h : NnP a) (g : NnP b) : NnP (a ++ b):=by
 refine ⟨by rw [net_app,h.1,g.1]; rfl,fun x y e => ?_⟩
 rcases List.append_eq_append_iff.1 e with ⟨c,h1,h2⟩ | ⟨c,h1,h2⟩
 ·rw [h1,net_app,h.1]
  have:=g.2 c y h2
  omega
 ·exact h.2 x c h1
theorem NnP.wrap {a : List Bool} (h : NnP a) : NnP (true :: (a ++ [false])):=by
 refine ⟨by show 1 + netP (a ++ [false]) = 0; rw [net_app,h.1]; rfl,fun x y e => ?_⟩
 cases x with
 | nil => exact Int.le_refl _
 | cons b x =>
  obtain ⟨rfl,e2⟩:=List.cons.inj (show true :: (a ++ [false]) = b :: (x ++ y) from e)
  show 0 ≤ 1 + netP x
  rcases List.append_eq_append_iff.1 e2 with ⟨c,h1,h2⟩ | ⟨c,h1,h2⟩
  ·rw [h1,net_app,h.1]
   cases c with
   | nil => decide
   | cons d c =>
    obtain ⟨rfl,e3⟩:=List.cons.inj h2
    have:=(List.append_eq_nil_iff.1 e3.symm).1
    subst this
    decide
  ·have:=h.2 x c h1
   omega
def tksP (l : List Tk) : List Bool:=l.flatMap tkP
theorem tksP_app (a b : List Tk) : tksP (a ++ b) = tksP a ++ tksP b:=by unfold tksP; rw [List.flatMap_append]
theorem tksP_skip {t : Tk} (h9 : t.kind ≠ 9) (h10 : t.kind ≠ 10) (l : List Tk) : tksP (t :: l) = tksP l:=by
 unfold tksP
 rw [List.flatMap_cons]
 unfold tkP
 rw [if_neg h9,if_neg h10]; rfl
theorem tksP_wrap {o c : Tk} (ho : o.kind = 9) (hc : c.kind = 10) (l : List Tk) : tksP (o :: (l ++ [c])) = true :: (tksP l ++ [false]):=by
 have e : tksP [c] = [false]:=by
  unfold tksP
  rw [List.flatMap_cons]
  unfold tkP
  rw [if_neg (by omega),if_pos hc]; rfl
 have e2 : tksP (o :: (l ++ [c])) = true :: tksP (l ++ [c]):=by
  unfold tksP
  rw [List.flatMap_cons]
  unfold tkP
  rw [if_pos ho]; rfl
 rw [e2,tksP_app,e]
theorem cn_nn {m : Cm} {ts : List Tk} {ns : List Nd} {n : Nat} (h : Cn m ts ns n) : NnP (tksP ts):=by
 induction h with
 | @val t h1 h4 => rw [tksP_skip (by omega) (by omega)]; exact .nil
 | @ref t h5 => rw [tksP_skip (by omega) (by omega)]; exact .nil
 | @neg t ts ns h8 h2 h ih => rw [tksP_skip (by omega) (by omega)]; exact ih
 | @pct t ts ns h8 h13 h ih => rw [tksP_app,tksP_skip (by omega) (by omega)]; exact ih.app .nil
 | @bin t k ts us ns ms h8 hk h1 h4 h g ih ig => rw [tksP_app,tksP_skip (by omega) (by omega)]; exact ih.app ig
 | @pow t ts us ns ms h8 h5 h g ih ig => rw [tksP_app,tksP_skip (by omega) (by omega)]; exact ih.app ig
 | @call t o c ts ns n h7 hf ho h hc h1 h2 hd ih => rw [tksP_skip (by omega) (by omega),tksP_wrap ho hc]; exact ih.wrap
 | bare hs h ih => exact ih
 | @par l s o c ts ns ho hc h ih => rw [tksP_wrap ho hc]; exact ih.wrap
 | argE h ih => exact ih
 | @argC fn i s c ts us ns ms m h hc g ih ig => rw [tksP_app,tksP_skip (by omega) (by omega)]; exact ih.app ig
 | @rngE fn i t h6 hw => rw [tksP_skip (by omega) (by omega)]; exact .nil
 | @rngC fn i t c us ms m h6 hw hc g ig => rw [tksP_skip (by omega) (by omega),tksP_skip (by omega) (by omega)]; exact ig
def endB : Bool → Nat → List UInt8 → Option Nat
 | _,_,[] => none
 | q,d,b :: l =>
  if (if b = 34 then !q else q) = true then (endB (if b = 34 then !q else q) d l).map (· + 1)
  else if b = 40 then (endB (if b = 34 then !q else q) (d + 1) l).map (· + 1)
  else if b = 41 then (if d = 1 then some 0 else (endB (if b = 34 then !q else q) (d - 1) l).map (· + 1))
  else (endB (if b = 34 then !q else q) d l).map (· + 1)
theorem end_some : ∀ (l : List UInt8) (q : Bool) (d : Nat),1 ≤ d → (d : Int) + netP (pQs q l) ≤ 0 → ∃ k x y,endB q d l = some k ∧ l = x ++ 41 :: y ∧ k = x.length ∧ qSt q x = false
 | [],q,d,h1,h => by
  have h : (d : Int) + 0 ≤ 0:=h
  omega
 | b :: l,q,d,h1,h => by
  have hp : pQs q (b :: l) = (if q = false ∧ b = 40 then [true] else if q = false ∧ b = 41 then [false] else []) ++ pQs (if b = 34 then !q else q) l:=rfl
  rw [hp] at h
  have step : ∀ e : Nat,1 ≤ e → (e : Int) + netP (pQs (if b = 34 then !q else q) l) ≤ 0 → ∃ k x y,(endB (if b = 34 then !q else q) e l).map (· + 1) = some k ∧ b :: l = x ++ 41 :: y ∧ k = x.length ∧ qSt q x = false:=by
   intro e h1 h
   obtain ⟨k,x,y,g1,g2,g3,g4⟩:=end_some l _ e h1 h
   exact ⟨k + 1,b :: x,y,by rw [g1]; rfl,by rw [g2]; rfl,by rw [g3]; rfl,g4⟩
  rw [endB]
  by_cases h34 : b = 34
  ·subst h34
   rw [if_neg (fun g => absurd g.2 (by decide)),if_neg (fun g => absurd g.2 (by decide)),List.nil_append] at h
   simp only [if_true] at h step ⊢
   by_cases hq : (!q) = true
   ·rw [if_pos hq]; exact step d h1 h
   ·rw [if_neg hq,if_neg (by decide),if_neg (by decide)]; exact step d h1 h
  ·simp only [if_neg h34] at h step ⊢
   cases q with
   | true =>
    rw [if_neg (fun g => by cases g.1),if_neg (fun g => by cases g.1),List.nil_append] at h
    rw [if_pos rfl]; exact step d h1 h
   | false =>
    rw [if_neg (by decide)]
    by_cases h40 : b = 40
    ·rw [if_pos ⟨rfl,h40⟩] at h
     rw [if_pos h40]
     refine step (d + 1) (by omega) ?_
     have h : (d : Int) + (1 + netP (pQs false l)) ≤ 0:=h
     omega
    ·rw [if_neg (fun g => h40 g.2)] at h
     rw [if_neg h40]
     by_cases h41 : b = 41
     ·rw [if_pos ⟨rfl,h41⟩] at h
      rw [if_pos h41]
      have h : (d : Int) + (-1 + netP (pQs false l)) ≤ 0:=h
      by_cases hd : d = 1
      ·rw [if_pos hd]
       exact ⟨0,[],l,rfl,by rw [h41]; rfl,rfl,rfl⟩
      ·rw [if_neg hd]
       exact step (d - 1) (by omega) (by omega)
     ·rw [if_neg (fun g => h41 g.2),List.nil_append] at h
      rw [if_neg h41]; exact step d h1 h
theorem end_close {x y : List UInt8} (h : NnP (pQs false (x ++ 40 :: y))) (hx : qSt false x = false) : ∃ k u v,endB false 1 y = some k ∧ y = u ++ 41 :: v ∧ k = u.length ∧ qSt false u = false:=by
 refine end_some y false 1 (Nat.le_refl _) ?_
 rw [pQs_app,hx] at h
 have h1:=h.2 _ _ rfl
 have h2:=h.1
 rw [net_app] at h2
 have e : netP (pQs false (40 :: y)) = 1 + netP (pQs false y):=rfl
 rw [e] at h2
 omega
theorem cnt_less {x u v : List UInt8} (hx : qSt false x = false) (hu : qSt false u = false) : cntP (pQs false (x ++ (u ++ v))) + 1 = cntP (pQs false (x ++ 40 :: (u ++ 41 :: v))):=by
 unfold cntP
 rw [pQs_app,pQs_app false x,hx,pQs_app]
 have e : pQs false (40 :: (u ++ 41 :: v)) = true :: pQs false (u ++ 41 :: v):=rfl
 rw [e,pQs_app,hu]
 have e2 : pQs false (41 :: v) = false :: pQs false v:=rfl
 rw [e2]
 simp only [List.count_append,List.count_cons]
 simp
 omega
theorem tight_plain {t : List Nd} {e : En} {x u v : List UInt8} (hc : comW t [] = [e]) (hn : Cn (.tr e.s) e.ts t 0) (hk : ∀ q ∈ e.ts,OkC q) (ha : txT e.ts = x ++ 40 :: (u ++ 41 :: v)) (hx : qSt false x = false) (hu : qSt false u = false)
  {ts : List Tk} {n : Nat} (hl : Lex 0 (x ++ (u ++ v)) ts []) (hp : Pk (.lv 1) ts [] t n) : False:=by
 obtain ⟨e2,h1,h2⟩:=pc_least hp
 rw [hc] at h1
 obtain ⟨rfl,-⟩:=List.cons.inj h1
 have g:=(lex_paren (cn_lex hn hk)).2
 have g2:=(lex_paren hl).2
 have g3:=cnt_less (v:=v) hx hu
 rw [← ha,g,g2,cnt_tks,cnt_tks] at g3
 have : pcN (placeT 0 e.ts) = pcN e.ts:=by
  generalize e.ts = l
  generalize 0 = k
  induction l generalizing k with
  | nil => rfl
  | cons t l ih =>
   show (if t.kind = 9 then 1 else 0) + pcN (placeT _ l) = (if t.kind = 9 then 1 else 0) + pcN l
   rw [ih]
 omega
end Go.Proofs.YtnbemkiplnanlaaGreatDoor
namespace Go.Proofs.YtnbemkiplnanlaaGreatDoor
set_option maxRecDepth 100000
set_option maxHeartbeats 8000000
open Go.RowKit
theorem end_quote (q : Bool) (d : Nat) (l : List UInt8) : endB q d (34 :: l) = (endB (!q) d l).map (· + 1):=by
 rw [endB]
 simp only [if_true]
 cases q
 ·rw [if_pos (by decide)]
 ·rw [if_neg (by decide),if_neg (by decide),if_neg (by decide)]
theorem end_in (d : Nat) (b : UInt8) (l : List UInt8) (h : b ≠ 34) : endB true d (b :: l) = (endB true d l).map (· + 1):=by
 rw [endB]
 rw [if_neg h,if_pos rfl]
theorem end_open (d : Nat) (l : List UInt8) : endB false d (40 :: l) = (endB false (d + 1) l).map (· + 1):=by
 rw [endB]
 rw [if_neg (show ¬ ((40 : UInt8) = 34) by decide),if_neg (by decide),if_pos rfl]
theorem end_shut (d : Nat) (l : List UInt8) : endB false d (41 :: l) = if d = 1 then some 0 else (endB false (d - 1) l).map (· + 1):=by
 rw [endB]
 rw [if_neg (show ¬ ((41 : UInt8) = 34) by decide),if_neg (by decide),if_neg (by decide),if_pos rfl]
theorem end_other (d : Nat) (b : UInt8) (l : List UInt8) (h : b ≠ 34) (h1 : b ≠ 40) (h2 : b ≠ 41) : endB false d (b :: l) = (endB false d l).map (· + 1):=by
 rw [endB]
 rw [if_neg h,if_neg (by decide),if_neg h1,if_neg h2]
theorem map_some {o : Option Nat} {r : Nat} (h : o.map (· + 1) = some r) : ∃ r',o = some r' ∧ r = r' + 1:=by
 obtain ⟨r',h1,h2⟩:=Option.map_eq_some_iff.1 h
 exact ⟨r',h1,h2.symm⟩
theorem byte_no {b : UInt8} {n : Nat} {k : UInt8} (hb : b.toNat = n) (h : b ≠ k) (m : Nat) (hk : k.toNat = m) : ((n : Int) == (m : Int)) = false:=by
 rw [beq_eq_false_iff_ne]
 intro e
 exact h (UInt8.toNat_inj.1 (by omega))
theorem law_end (S : ByteArray) (i E : Nat) (w : World) (hs : S.size ≤ 1000) (he : ∃ r,endB false 0 (S.data.toList.drop i) = some r ∧ i + r = E) (h40 : S.data.toList[i]? = some 40) :
  Calls Tryz.prog 26 #[.string S,.int .i64 (i : Int)] w fun e w' => e = .returned (.int .i64 (E : Int)) ∧ Below w.heap.size w w':=by
 have hzl : S.data.toList.length = S.size:=by rw [Array.length_toList]; rfl
 have hi : i < S.size:=by rw [← hzl]; exact (List.getElem?_eq_some_iff.1 h40).1
 have HZ:=keep hzl
 obtain ⟨r0,he1,he2⟩:=he
 have HST:=keep (show endB false 0 (S.data.toList.drop i) = some r0 ∧ i + r0 = E ∧ (0 = 0 → S.data.toList[i]? = some 40 ∧ false = false) from ⟨he1,he2,fun _ => ⟨h40,rfl⟩⟩)
 clear he1 he2 h40 hzl
 go_enter Tryz.func26,Tryz.ntmps26
 go_wp2_with fail
 go_loopw [5,6,7] (fun dv qv kv wr => ∃ (p d : Nat) (q : Bool) (r : Nat),p ≤ S.size ∧ d ≤ p ∧ dv = .int .i64 (d : Int) ∧ qv = .bool q ∧ kv = .int .i64 (p : Int) ∧ Keep (endB q d (S.data.toList.drop p) = some r ∧ p + r = E ∧ (d = 0 → S.data.toList[p]? = some 40 ∧ q = false)) ∧ wr = w) (fun _ _ kv _ => S.size - (intOf kv).toNat)
 case atStart => exact ⟨i,0,false,r0,by omega,Nat.zero_le _,rfl,rfl,rfl,keep ⟨HST.out.1,HST.out.2.1,fun _ => ⟨(HST.out.2.2 trivial).1,rfl⟩⟩,rfl⟩
 case round =>
  clear HST
  obtain ⟨p,d,q,r,hp,hd,rfl,rfl,rfl,HST,rfl⟩:=hrel
  have hlt : p < S.size:=by
   rcases Nat.lt_or_ge p S.size with h | h
   ·exact h
   ·exfalso
    have h1:=HST.out.1
    rw [List.drop_eq_nil_of_le (by rw [HZ.out]; exact h)] at h1
    cases h1
  have hlt' : (p : Int) < (S.size : Int):=by omega
  obtain ⟨b,hb⟩ : ∃ b,S[p]'hlt = b:=⟨_,rfl⟩
  have hgl : S.data.toList[p]'(by rw [HZ.out]; exact hlt) = b:=hb
  have h1:=HST.out.1
  have h2:=HST.out.2.1
  have h3:=HST.out.2.2
  rw [List.drop_eq_getElem_cons (by rw [HZ.out]; exact hlt),hgl] at h1
  rw [List.getElem?_eq_getElem (by rw [HZ.out]; exact hlt),hgl] at h3
  obtain ⟨n,hn⟩ : ∃ n,b.toNat = n:=⟨_,rfl⟩
  have hix : ∀ h,((S[p]'h).toNat : Int) = (n : Int):=fun _ => by rw [← hn,← hb]
  clear hb hgl HST
  by_cases c34 : b = 34
  ·obtain rfl : n = 34:=by rw [← hn,c34]; rfl
   subst c34
   rw [show ((34 : Nat) : Int) = 34 from rfl] at hix
   rw [end_quote] at h1
   obtain ⟨r',g1,rfl⟩:=map_some h1
   have hd0 : d ≠ 0:=fun h => absurd (Option.some.inj (h3 h).1) (by decide)
   have HN:=keep (show endB (!q) d (S.data.toList.drop (p + 1)) = some r' ∧ p + 1 + r' = E ∧ (d = 0 → S.data.toList[p + 1]? = some 40 ∧ (!q) = false) from ⟨g1,by omega,fun h => absurd h hd0⟩)
   clear h1 h2 h3 g1 hd0 hn
   cases q
   ·go_wp2_with fail
    go_roundw
    case rel => exact ⟨p + 1,d,true,r',by omega,by omega,rfl,rfl,by go_num,HN,trivial⟩
    case measure => simp [intOf]; omega
   ·go_wp2_with fail
    go_roundw
    case rel => exact ⟨p + 1,d,false,r',by omega,by omega,rfl,rfl,by go_num,HN,trivial⟩
    case measure => simp [intOf]; omega
  have e34:=byte_no hn c34 34 rfl
  rw [show ((34 : Nat) : Int) = 34 from rfl] at e34
  cases q with
  | true =>
   rw [end_in d b _ c34] at h1
   obtain ⟨r',g1,rfl⟩:=map_some h1
   have hd0 : d ≠ 0:=fun h => absurd (h3 h).2 (by decide)
   have HN:=keep (show endB true d (S.data.toList.drop (p + 1)) = some r' ∧ p + 1 + r' = E ∧ (d = 0 → S.data.toList[p + 1]? = some 40 ∧ true = false) from ⟨g1,by omega,fun h => absurd h hd0⟩)
   clear h1 h2 h3 g1 hd0 hn
   go_wp2_with fail
   go_roundw
   case rel => exact ⟨p + 1,d,true,r',by omega,by omega,rfl,rfl,by go_num,HN,trivial⟩
   case measure => simp [intOf]; omega
  | false =>
   by_cases c40 : b = 40
   ·obtain rfl : n = 40:=by rw [← hn,c40]; rfl
    subst c40
    rw [show ((40 : Nat) : Int) = 40 from rfl] at hix
    rw [end_open] at h1
    obtain ⟨r',g1,rfl⟩:=map_some h1
    have HN:=keep (show endB false (d + 1) (S.data.toList.drop (p + 1)) = some r' ∧ p + 1 + r' = E ∧ (d + 1 = 0 → S.data.toList[p + 1]? = some 40 ∧ false = false) from ⟨g1,by omega,fun h => absurd h (by omega)⟩)
    clear h1 h2 h3 g1 hn e34
    go_wp2_with fail
    go_roundw
    case rel => exact ⟨p + 1,d + 1,false,r',by omega,by omega,by go_num,rfl,by go_num,HN,trivial⟩
    case measure => simp [intOf]; omega
   have hd0 : d ≠ 0:=fun h => absurd (Option.some.inj (h3 h).1) c40
   have e40:=byte_no hn c40 40 rfl
   rw [show ((40 : Nat) : Int) = 40 from rfl] at e40
   by_cases c41 : b = 41
   ·obtain rfl : n = 41:=by rw [← hn,c41]; rfl
    subst c41
    rw [show ((41 : Nat) : Int) = 41 from rfl] at hix
    rw [end_shut] at h1
    by_cases hd1 : d = 1
    ·rw [if_pos hd1] at h1
     obtain rfl : 0 = r:=Option.some.inj h1
     obtain rfl : p = E:=by omega
     subst hd1
     clear h1 h2 h3 hn e34 e40 hd0
     go_wp2_with fail
     go_ret
     exact ⟨rfl,Below.refl _ _⟩
    ·rw [if_neg hd1] at h1
     obtain ⟨r',g1,rfl⟩:=map_some h1
     have HN:=keep (show endB false (d - 1) (S.data.toList.drop (p + 1)) = some r' ∧ p + 1 + r' = E ∧ (d - 1 = 0 → S.data.toList[p + 1]? = some 40 ∧ false = false) from ⟨g1,by omega,fun h => absurd h (by omega)⟩)
     have e1 : ((d : Int) - 1 == 0) = false:=by rw [beq_eq_false_iff_ne]; omega
     clear h1 h2 h3 g1 hn e34 e40
     go_wp2_with fail
     go_roundw
     case rel => exact ⟨p + 1,d - 1,false,r',by omega,by omega,by go_num,rfl,by go_num,HN,trivial⟩
     case measure => simp [intOf]; omega
   have e41:=byte_no hn c41 41 rfl
   rw [show ((41 : Nat) : Int) = 41 from rfl] at e41
   rw [end_other d b _ c34 c40 c41] at h1
   obtain ⟨r',g1,rfl⟩:=map_some h1
   have HN:=keep (show endB false d (S.data.toList.drop (p + 1)) = some r' ∧ p + 1 + r' = E ∧ (d = 0 → S.data.toList[p + 1]? = some 40 ∧ false = false) from ⟨g1,by omega,fun h => absurd h hd0⟩)
   clear h1 h2 h3 g1 hd0 hn
   go_wp2_with fail
   go_roundw
   case rel => exact ⟨p + 1,d,false,r',by omega,by omega,rfl,rfl,by go_num,HN,trivial⟩
   case measure => simp [intOf]; omega
end Go.Proofs.YtnbemkiplnanlaaGreatDoor
namespace Go.Proofs.YtnbemkiplnanlaaGreatDoor
open Go.RowKit
theorem tksP_place : ∀ (l : List Tk) (k : Nat),tksP (placeT k l) = tksP l
 | [],_ => rfl
 | t :: l,k => by
  show tkP (t.at k) ++ tksP (placeT _ l) = tkP t ++ tksP l
  rw [tksP_place l]
  rfl
theorem show_txt {t : List Nd} (ht : ∀ n ∈ t,NdC n) (h : checkS t = 0) : ∃ e : En,comW t [] = [e] ∧ Cn (.tr e.s) e.ts t 0 ∧ (∀ q ∈ e.ts,OkC q) ∧ showT t = txT e.ts:=by
 obtain ⟨e,he,hc,hk⟩:=tree_cn t ht h
 refine ⟨e,he,hc,hk,?_⟩
 unfold showT
 have:=txW_com t []
 rw [he] at this
 rw [← show (List.map enT [e]) = txW t [] from this]
 rfl
theorem show_nn {t : List Nd} (ht : ∀ n ∈ t,NdC n) (h : checkS t = 0) : NnP (pQs false (showT t)):=by
 obtain ⟨e,-,hc,hk,hx⟩:=show_txt ht h
 rw [hx,(lex_paren (cn_lex hc hk)).2]
 have:=tksP_place e.ts 0
 unfold tksP at this
 rw [this]
 exact cn_nn hc
theorem show_tight {t : List Nd} (ht : ∀ n ∈ t,NdC n) (h : checkS t = 0) {x u v : List UInt8} (ha : showT t = x ++ 40 :: (u ++ 41 :: v)) (hx : qSt false x = false) (hu : qSt false u = false) {t' : List Nd} {a : Int} (hf : formS (x ++ (u ++ v)) = (t',a,0)) : t' ≠ t:=by
 rintro rfl
 obtain ⟨e,he,hc,hk,hy⟩:=show_txt ht h
 obtain ⟨-,-,-,-,-,ts,n,h1,h2⟩:=form_good hf
 obtain ⟨-,-,-,hl⟩:=tokens_ok h1
 exact tight_plain he hc hk (by rw [← hy]; exact ha) hx hu hl h2
theorem qSt_snoc (l : List UInt8) (b : UInt8) : qSt false (l ++ [b]) = if b = 34 then !(qSt false l) else qSt false l:=by
 rw [qSt_app]
 rfl
theorem qSt_step {L : List UInt8} {k : Nat} (h : k < L.length) : qSt false (L.take (k + 1)) = if L[k] = 34 then !(qSt false (L.take k)) else qSt false (L.take k):=by
 rw [List.take_succ_eq_append_getElem h,qSt_snoc]
theorem pair_at {t : List Nd} (ht : ∀ n ∈ t,NdC n) (h : checkS t = 0) {k : Nat} (hk : k < (showT t).length) (h40 : (showT t)[k] = 40) (hq : qSt false ((showT t).take k) = false) :
  ∃ E,k < E ∧ E < (showT t).length ∧ (∃ r,endB false 0 ((showT t).drop k) = some r ∧ k + r = E) ∧
   ∀ t' a,formS ((showT t).take k ++ ((((showT t).drop (k + 1)).take (E - (k + 1))) ++ (showT t).drop (E + 1))) = (t',a,0) → t' ≠ t:=by
 have hs : showT t = (showT t).take k ++ 40 :: (showT t).drop (k + 1):=by
  conv => lhs; rw [← List.take_append_drop k (showT t)]
  rw [List.drop_eq_getElem_cons hk,h40]
 obtain ⟨r,u,v,h1,h2,h3,h4⟩:=end_close (x:=(showT t).take k) (y:=(showT t).drop (k + 1)) (by rw [← hs]; exact show_nn ht h) hq
 have hlen : (showT t).length = k + (1 + (u.length + (1 + v.length))):=by
  have:=congrArg List.length hs
  rw [List.length_append,List.length_take,List.length_cons,h2,List.length_append,List.length_cons] at this
  omega
 have hu : ((showT t).drop (k + 1)).take (k + 1 + r - (k + 1)) = u:=by
  rw [h2,show k + 1 + r - (k + 1) = u.length by omega,List.take_left]
 have hv : (showT t).drop (k + 1 + r + 1) = v:=by
  rw [show k + 1 + r + 1 = (k + 1) + (u.length + 1) by omega,← List.drop_drop,h2,← List.drop_drop,List.drop_left]
  rfl
 refine ⟨k + 1 + r,by omega,by omega,⟨r + 1,?_,by omega⟩,fun t' a hf => ?_⟩
 ·rw [List.drop_eq_getElem_cons hk,h40]
  have : endB false 0 (40 :: (showT t).drop (k + 1)) = (endB false 1 ((showT t).drop (k + 1))).map (· + 1):=by
   rw [endB,if_neg (show ¬ ((40 : UInt8) = 34) by decide),if_neg (by decide),if_pos rfl]
  rw [this,h1]
  rfl
 ·rw [hu,hv] at hf
  exact show_tight ht h (hs.trans (by rw [h2])) hq h4 hf
end Go.Proofs.YtnbemkiplnanlaaGreatDoor
namespace Go.Proofs.YtnbemkiplnanlaaGreatDoor
set_option maxRecDepth 100000
set_option maxHeartbeats 16000000
open Go.RowKit
def kRowsAt (a : Option Addr) (s : Nat) (l : List (List Value)) : Pers where
 p w:=RowsAt w a s l
 s _:=True
 far row:=l ≠ [] → ∀ b o,a = some ⟨b,o,none⟩ → some b ≠ row
 st w w' row hr hb h:=by
  intro hl
  obtain ⟨b,o,e,h1,h2⟩:=h hl
  exact ⟨b,o,e,Nat.lt_of_lt_of_le h1 hb.size,fun i r hi j v hj => (World.cell?_of_block (hb.block b h1 (hr hl b o e))).trans (h2 i r hi j v hj)⟩
 vis _ _:=trivial
 none_:=by simp
 new w k hk h:=by
  intro hl b o e
  obtain ⟨b',o',e',h1,-⟩:=h hl
  rw [e] at e'
  cases e'
  simp
  omega
theorem cut200 (S : ByteArray) : (S.extract 0 (min (S.size : Int) 200).toNat).size ≤ 200:=by
 rw [ByteArray.size_extract]
 omega
theorem cut_three (S : ByteArray) (k E : Nat) (Z : ByteArray) (hZ : S.extract 0 k ++ S.extract (k + 1) E ++ S.extract (E + 1) S.size = Z) : Z.data.toList = S.data.toList.take k ++ ((S.data.toList.drop (k + 1)).take (E - (k + 1)) ++ S.data.toList.drop (E + 1)):=by
 have hz : S.data.toList.length = S.size:=by rw [Array.length_toList]; rfl
 rw [← hZ,Go.Joins.data_append,Go.Joins.data_append,Lib.extract_data,Lib.extract_data,Lib.extract_data,List.drop_zero,Nat.sub_zero,List.append_assoc]
 congr 2
 exact List.take_of_length_le (by rw [List.length_drop,hz]; omega)
theorem any_inj {t u : List Nd} (h : t ≠ u) : t.map Nd.any ≠ u.map Nd.any:=by
 intro e
 have:=congrArg (List.map NdA.nd) e
 rw [map_any,map_any] at this
 exact h this
theorem law_ShowTight (s : ByteArray) (w : World) (he : WEnv w) :
  Calls Tryz.prog 6 #[.string s] w fun e w' => e = .returned (.bool true) ∧ Below w.heap.size w w':=by
 have HE:=keep he
 clear he
 have hcut:=cut200 s
 go_enter Tryz.func6,Tryz.ntmps6
 go_wp2_with fail
 generalize s.extract 0 (min (s.size : Int) 200).toNat = P at hcut ⊢
 refine (parse_Formula P _ (by omega) HE.out.1).mono ?_
 rintro e w1 ⟨v,rfl,hown,hb⟩
 obtain ⟨t,f1,f2,hf⟩ : ∃ t f1 f2,formS P.data.toList = (t,f1,f2):=⟨_,_,_,rfl⟩
 rw [hf] at hown ⊢
 simp only [] at hown ⊢
 obtain ⟨a1,c1,rfl⟩:=own_len hown
 obtain ⟨-,hrow⟩:=rows_get hown
 have H1:=Lib.hid (((Ok.start w).below hb).add (kRowsAt a1 11 (t.map ndRow)) hrow)
 clear hown hrow hb hcut
 by_cases h0 : f2 = 0
 rotate_left
 ·have hne : (f2 != 0) = true:=by simp [h0]
  clear hf
  go_wp2_with fail
  refine (law_awake10 w1 (HE.out.below H1.out.bel)).mono ?_
  rintro e w2 ⟨rfl,hb⟩
  have H2:=Lib.hid (H1.out.below hb)
  clear hb H1
  go_wp2_with fail
  go_ret
  exact ⟨rfl,H2.out.bel⟩
 subst h0
 obtain ⟨rfl,hck,hsz,hnd,hcs,-⟩:=form_good hf
 have HSZ:=keep hsz
 have HND:=keep hnd
 have HCS:=keep hcs
 have HF:=keep hf
 have HLN:=keep (show (t.map Nd.any).length = t.length from List.length_map ..)
 have htl : t.length ≤ 1000:=by have:=hsz.len; rw [List.length_map] at this; exact this
 clear hf hck hsz hnd hcs
 go_wp2_with fail
 rw [← HLN.out]
 refine (show_Formula (t.map Nd.any) a1 c1 w1 HSZ.out ⟨by rw [any_rows]; exact H1.out.get (kRowsAt a1 11 (t.map ndRow)) (by simp),HE.out.below H1.out.bel⟩).mono ?_
 rintro e w2 ⟨rfl,hb⟩
 have H2:=Lib.hid (H1.out.below hb)
 rw [HLN.out]
 clear hb H1
 by_cases hl : 256 < (showT t).length
 ·rw [show_parsed_long HF.out hl]
  simp only []
  clear hl
  go_wp2_with fail
  refine (parse_Formula _ _ (by decide) (HE.out.below H2.out.bel).1).mono ?_
  rintro e w3 ⟨v,rfl,hown,hb⟩
  obtain ⟨a3,c3,rfl⟩:=own_len hown
  generalize (formS (⟨#[]⟩ : ByteArray).data.toList) = G
  have H3:=Lib.hid (H2.out.below hb)
  clear hown hb H2
  go_wp2_with fail
  refine (law_awake10 w3 (HE.out.below H3.out.bel)).mono ?_
  rintro e w4 ⟨rfl,hb⟩
  have H4:=Lib.hid (H3.out.below hb)
  clear hb H3
  go_wp2_with fail
  go_ret
  exact ⟨rfl,H4.out.bel⟩
 rw [show_parsed HF.out (by omega)]
 simp only []
 have HB:=keep (show formS (showT t) = (t,0,0) by
  have h:=form_show (t:=t.map Nd.any) (form_good HF.out).2.1 HSZ.out.num (by rw [map_any]; omega)
  rw [map_any] at h
  exact h)
 obtain ⟨S,hS⟩ : ∃ S : ByteArray,S = ⟨(showT t).toArray⟩:=⟨_,rfl⟩
 have HSD:=keep (show S.data.toList = showT t by rw [hS])
 have HZL:=keep (show (showT t).length = S.size by rw [← HSD.out,Array.length_toList]; rfl)
 have hss : S.size ≤ 256:=by rw [← HZL.out]; omega
 rw [← hS]
 clear hS hl HF
 go_wp2_with fail
 refine (parse_Formula S _ (by omega) (HE.out.below H2.out.bel).1).mono ?_
 rintro e w3 ⟨v,rfl,hown,hb⟩
 rw [HSD.out,HB.out] at hown ⊢
 simp only [] at hown ⊢
 obtain ⟨a3,c3,rfl⟩:=own_len hown
 obtain ⟨-,hrow⟩:=rows_get hown
 have H3:=Lib.hid (H2.out.below hb)
 have HR3:=keep hrow
 clear hown hrow hb H2 HB
 go_wp2_with fail
 rw [← HLN.out]
 refine (equal_treeA (t.map Nd.any) (t.map Nd.any) a1 a3 c1 c3 w3 (by rw [HLN.out]; exact htl) (by rw [HLN.out]; exact htl) (by rw [any_rows]; exact H3.out.get (kRowsAt a1 11 (t.map ndRow)) (by simp)) (by rw [any_rows]; exact HR3.out)).mono ?_
 rintro e w4 ⟨rfl,hb⟩
 rw [eqA_yes,HLN.out]
 have H4:=Lib.hid (H3.out.below hb)
 clear hb H3 HR3
 go_wp2_with fail
 go_loopw [10,11] (fun qv iv wr => ∃ k : Nat,k ≤ S.size ∧ qv = .bool (qSt false ((showT t).take k)) ∧ iv = .int .i64 (k : Int) ∧ Hid (Ok w [kRowsAt a1 11 (t.map ndRow)] wr)) (fun _ iv _ => S.size - (intOf iv).toNat)
 case atStart => exact ⟨0,Nat.zero_le _,rfl,rfl,H4⟩
 case round =>
  clear H4
  obtain ⟨k,hk,rfl,rfl,HK⟩:=hrel
  obtain ⟨wp,rfl⟩ : ∃ wp : World,wp = wr:=⟨_,rfl⟩
  by_cases hlt : (k : Int) < (S.size : Int)
  ·have hltn : k < S.size:=by omega
   obtain ⟨b,hb⟩ : ∃ b,S[k]'hltn = b:=⟨_,rfl⟩
   have hgl : (showT t)[k]'(by rw [HZL.out]; exact hltn) = b:=by
    have h1 : S.data.toList[k]'(by rw [HSD.out,HZL.out]; exact hltn) = b:=hb
    rw [← h1]
    congr 1
    exact HSD.out.symm
   have HST:=qSt_step (L:=showT t) (k:=k) (by rw [HZL.out]; exact hltn)
   rw [hgl] at HST
   obtain ⟨n,hn⟩ : ∃ n,b.toNat = n:=⟨_,rfl⟩
   have hix : ∀ h,((S[k]'h).toNat : Int) = (n : Int):=fun _ => by rw [← hn,← hb]
   obtain ⟨q,hq⟩ : ∃ q,qSt false ((showT t).take k) = q:=⟨_,rfl⟩
   rw [hq] at HST ⊢
   clear hb
   by_cases c34 : b = 34
   ·obtain rfl : n = 34:=by rw [← hn,c34]; rfl
    rw [if_pos c34] at HST
    have HN:=keep HST
    clear HST hgl hn hq c34
    rw [show ((34 : Nat) : Int) = 34 from rfl] at hix
    cases q
    ·go_upto_region 16 with fail
     go_cut [12] (fun cv wx => (∃ cl : Bool,cv = .bool cl) ∧ wp = wx)
     case first =>
      rcases Nat.eq_zero_or_pos k with hk0 | hk0
      ·have e3 : decide ((0 : Int) < (k : Int)) = false:=by simp; omega
       clear hk0
       go_wp2_with fail
       all_goals (go_meet; exact ⟨⟨_,rfl⟩,rfl⟩)
      ·have e4 : (0 : Int) < (k : Int):=by omega
       go_wp2_with fail
       all_goals (go_meet; exact ⟨⟨_,rfl⟩,rfl⟩)
     case rest =>
      obtain ⟨⟨cl,rfl⟩,rfl⟩:=hcut
      go_wp2_with fail
      go_roundw
      case rel => exact ⟨k + 1,by omega,by rw [HN.out]; rfl,by go_num,HK⟩
      case measure => simp [intOf]; omega
    ·go_upto_region 16 with fail
     go_cut [12] (fun cv wx => (∃ cl : Bool,cv = .bool cl) ∧ wp = wx)
     case first =>
      rcases Nat.eq_zero_or_pos k with hk0 | hk0
      ·have e3 : decide ((0 : Int) < (k : Int)) = false:=by simp; omega
       clear hk0
       go_wp2_with fail
       all_goals (go_meet; exact ⟨⟨_,rfl⟩,rfl⟩)
      ·have e4 : (0 : Int) < (k : Int):=by omega
       go_wp2_with fail
       all_goals (go_meet; exact ⟨⟨_,rfl⟩,rfl⟩)
     case rest =>
      obtain ⟨⟨cl,rfl⟩,rfl⟩:=hcut
      go_wp2_with fail
      go_roundw
      case rel => exact ⟨k + 1,by omega,by rw [HN.out]; rfl,by go_num,HK⟩
      case measure => simp [intOf]; omega
   have e34:=byte_no hn c34 34 rfl
   rw [show ((34 : Nat) : Int) = 34 from rfl] at e34
   rw [if_neg c34] at HST
   have HN:=keep HST
   clear HST
   by_cases c40 : b = 40
   ·obtain rfl : n = 40:=by rw [← hn,c40]; rfl
    rw [show ((40 : Nat) : Int) = 40 from rfl] at hix e34
    cases q
    ·obtain ⟨E,hE1,hE2,hE3,hE4⟩:=pair_at HND.out HCS.out (by rw [HZL.out]; exact hltn) (by rw [hgl,c40]) hq
     rw [HZL.out] at hE2
     have HE3:=keep hE3
     have HE4:=keep hE4
     have HG:=keep (show S.data.toList[k]? = some 40 by rw [HSD.out,List.getElem?_eq_getElem (by rw [HZL.out]; exact hltn),hgl,c40])
     clear hE3 hE4 hgl hn hq c34 c40
     go_upto_region 16 with fail
     go_cut [12] (fun cv wx => (∃ cl : Bool,cv = .bool cl) ∧ wp = wx)
     case first =>
      rcases Nat.eq_zero_or_pos k with hk0 | hk0
      ·have e3 : decide ((0 : Int) < (k : Int)) = false:=by simp; omega
       clear hk0
       go_wp2_with fail
       all_goals (go_meet; exact ⟨⟨_,rfl⟩,rfl⟩)
      ·have e4 : (0 : Int) < (k : Int):=by omega
       go_wp2_with fail
       all_goals (go_meet; exact ⟨⟨_,rfl⟩,rfl⟩)
     case rest =>
      obtain ⟨⟨cl,rfl⟩,rfl⟩:=hcut
      cases cl
      ·go_wp2_with fail
       refine (law_end S k E wp (by omega) (by rw [HSD.out]; exact HE3.out) HG.out).mono ?_
       rintro e w5 ⟨rfl,hb⟩
       have H5:=Lib.hid (HK.out.below hb)
       clear hb HK
       have i1 : IntKind.i64.wrap ((k : Int) + 1) = (k : Int) + 1:=Go.IntWalk.i64_in _ (by omega)
       have i2 : IntKind.i64.wrap ((E : Int) + 1) = (E : Int) + 1:=Go.IntWalk.i64_in _ (by omega)
       have z1 : (S.extract 0 k).size = k:=by rw [ByteArray.size_extract]; omega
       have z2 : (S.extract (k + 1) E).size = E - (k + 1):=by rw [ByteArray.size_extract]; omega
       have z3 : (S.extract (E + 1) S.size).size = S.size - (E + 1):=by rw [ByteArray.size_extract]; omega
       have s0 : (0 : Int) ≤ (k : Int) + 1:=by omega
       have s1 : (k : Int) + 1 ≤ (E : Int):=by omega
       have s2 : (E : Int) + 1 ≤ (S.size : Int):=by omega
       have s3 : (E : Int) ≤ (S.size : Int):=by omega
       have s4 : (k : Int) ≤ (S.size : Int):=by omega
       have s5 : (0 : Int) ≤ (E : Int) + 1:=by omega
       have s6 : (0 : Int) ≤ (E : Int):=by omega
       have HZ1:=keep z1
       have HZ2:=keep z2
       have HZ3:=keep z3
       clear z1 z2 z3
       go_wp2_with fail
       go_upto_region 21 with fail
       refine wp_region_held_drew (S:=fun W => Ok w [kRowsAt a1 11 (t.map ndRow)] W) (by kernel_rfl) H5.out.drew (fun hHeld => ?_)
       have H21:=Lib.hid H5.out.drew
       clear H5
       generalize w5.drew = W22 at hHeld H21 ⊢
       refine wtg (i:=0) (v:=?a1) rfl ?b1 (by assumption) ?c1
       case b1 => (intro w hSw; have F:=Ok.sees hSw; clear hSw; simp only [sees,and_true] at F; go_simp; (try rw [if_neg (by omega)]); (try rw [if_pos (by omega)]); try with_reducible rfl)
       try simp only [Act.put,wp1,wp2,wp3,wp4,wp6]
       refine wtg (i:=1) (v:=?a3) rfl ?b3 (by assumption) ?c3
       case b3 => (intro w hSw; have F:=Ok.sees hSw; clear hSw; simp only [sees,and_true] at F; go_simp; (try rw [if_neg (by omega)]); (try rw [if_pos (by omega)]); try with_reducible rfl)
       try simp only [Act.put,wp1,wp2,wp3,wp4,wp5,wp6]
       refine wtg (i:=2) (v:=?a5) rfl ?b5 (by assumption) ?c5
       case b5 => (intro w hSw; have F:=Ok.sees hSw; clear hSw; simp only [sees,and_true] at F; go_simp; (try rw [if_neg (by omega)]); (try rw [if_pos (by omega)]); try with_reducible rfl)
       try simp only [Act.put,wp1,wp2,wp3,wp4,wp5,wp6]
       refine wtg (i:=3) (v:=?a7) rfl ?b7 (by assumption) ?c7
       case b7 => (intro w hSw; have F:=Ok.sees hSw; clear hSw; simp only [sees,and_true] at F; go_simp; (try rw [if_neg (by omega)]); (try rw [if_pos (by omega)]); try with_reducible rfl)
       try simp only [Act.put,wp1,wp2,wp3,wp4,wp5,wp6]
       refine wtg (i:=4) (v:=?a9) rfl ?b9 (by assumption) ?c9
       case b9 => (intro w hSw; have F:=Ok.sees hSw; clear hSw; simp only [sees,and_true] at F; go_simp; (try rw [if_neg (by omega)]); (try rw [if_pos (by omega)]); try with_reducible rfl)
       try simp only [Act.put,wp1,wp2,wp3,wp4,wp5,wp6]
       refine wtg (i:=5) (v:=?a11) rfl ?b11 (by assumption) ?c11
       case b11 => (intro w hSw; have F:=Ok.sees hSw; clear hSw; simp only [sees,and_true] at F; go_simp; (try rw [if_neg (by omega)]); (try rw [if_pos (by omega)]); try with_reducible rfl)
       try simp only [Act.put,wp1,wp2,wp3,wp4,wp5,wp6]
       refine wtg (i:=6) (v:=?a13) rfl ?b13 (by assumption) ?c13
       case b13 => (intro w hSw; have F:=Ok.sees hSw; clear hSw; simp only [sees,and_true] at F; go_simp; (try rw [if_neg (by omega)]); (try rw [if_pos (by omega)]); try with_reducible rfl)
       try simp only [Act.put,wp1,wp2,wp3,wp4,wp5,wp6]
       refine wtg (i:=7) (v:=?a15) rfl ?b15 (by assumption) ?c15
       case b15 => (intro w hSw; have F:=Ok.sees hSw; clear hSw; simp only [sees,and_true] at F; go_simp; (try rw [if_neg (by omega)]); (try rw [if_pos (by omega)]); try with_reducible rfl)
       try simp only [Act.put,wp1,wp2,wp3,wp4,wp5,wp6]
       refine wtg (i:=8) (v:=?a17) rfl ?b17 (by assumption) ?c17
       case b17 => (intro w hSw; have F:=Ok.sees hSw; clear hSw; simp only [sees,and_true] at F; go_simp; (try rw [if_neg (by omega)]); (try rw [if_pos (by omega)]); try with_reducible rfl)
       try simp only [Act.put,wp1,wp2,wp3,wp4,wp5,wp6]
       refine wtg (i:=9) (v:=?a19) rfl ?b19 (by assumption) ?c19
       case b19 => (intro w hSw; have F:=Ok.sees hSw; clear hSw; simp only [sees,and_true] at F; go_simp; (try rw [if_neg (by omega)]); (try rw [if_pos (by omega)]); try with_reducible rfl)
       try simp only [Act.put,wp1,wp2,wp3,wp4,wp5,wp6]
       refine wtg (i:=10) (v:=?a21) rfl ?b21 (by assumption) ?c21
       case b21 => (intro w hSw; have F:=Ok.sees hSw; clear hSw; simp only [sees,and_true] at F; go_simp; (try rw [if_neg (by omega)]); (try rw [if_pos (by omega)]); try with_reducible rfl)
       try simp only [Act.put,wp1,wp2,wp3,wp4,wp5,wp6]
       refine wtg (i:=11) (v:=?a23) rfl ?b23 (by assumption) ?c23
       case b23 => (intro w hSw; have F:=Ok.sees hSw; clear hSw; simp only [sees,and_true] at F; go_simp; (try rw [if_neg (by omega)]); (try rw [if_pos (by omega)]); try with_reducible rfl)
       try simp only [Act.put,wp1,wp2,wp3,wp4,wp5,wp6]
       refine wtg (i:=12) (v:=?a25) rfl ?b25 (by assumption) ?c25
       case b25 => (intro w hSw; have F:=Ok.sees hSw; clear hSw; simp only [sees,and_true] at F; go_simp; (try rw [if_neg (by omega)]); (try rw [if_pos (by omega)]); try with_reducible rfl)
       try simp only [Act.put,wp1,wp2,wp3,wp4,wp5,wp6]
       refine wtg (i:=13) (v:=?a27) rfl ?b27 (by assumption) ?c27
       case b27 => (intro w hSw; have F:=Ok.sees hSw; clear hSw; simp only [sees,and_true] at F; go_simp; (try rw [if_neg (by omega)]); (try rw [if_pos (by omega)]); try with_reducible rfl)
       try simp only [Act.put,wp1,wp2,wp3,wp4,wp5,wp6]
       refine wal (i:=14) rfl (fun K hK => ?_)
       go_simp
       obtain ⟨Z,hZ⟩ : ∃ Z : ByteArray,S.extract 0 k ++ S.extract (k + 1) E ++ S.extract (E + 1) S.size = Z:=⟨_,rfl⟩
       rw [hZ]
       have HZD:=keep (cut_three S k E Z hZ)
       have hzs : Z.size ≤ 1000:=by
        rw [← hZ,ByteArray.size_append,ByteArray.size_append,HZ1.out,HZ2.out,HZ3.out]
        omega
       clear hZ
       rw [HSD.out] at HZD
       refine (parse_Formula Z _ (by omega) (HE.out.below H21.out.bel).1).mono ?_
       rintro e w31 ⟨v9,rfl,hown,hb⟩
       obtain ⟨t9,g1,g2,hf9⟩ : ∃ t9 g1 g2,formS Z.data.toList = (t9,g1,g2):=⟨_,_,_,rfl⟩
       rw [hf9] at hown ⊢
       simp only [] at hown ⊢
       obtain ⟨a9,c9,rfl⟩:=own_len hown
       obtain ⟨-,hrow9⟩:=rows_get hown
       have HR9:=keep hrow9
       have HF9:=keep hf9
       clear hf9 hrow9 hown
       go_wp2_with fail
       have H23:=Lib.hid (H21.out.below hb)
       clear hb H21
       refine hK.out _ _ (H23.out) (fun hHeld => ?_)
       clear hK K
       try simp only [Act.put,wp1,wp2,wp3,wp4,wp5,wp6]
       refine wtg (i:=15) (v:=?a30) rfl ?b30 (by assumption) ?c30
       case b30 => (intro w hSw; have F:=Ok.sees hSw; clear hSw; simp only [sees,and_true] at F; go_simp; (try rw [if_neg (by omega)]); (try rw [if_pos (by omega)]); try with_reducible rfl)
       try simp only [Act.put,wp1,wp2,wp3,wp4,wp5,wp6]
       refine wtg (i:=16) (v:=?a32) rfl ?b32 (by assumption) ?c32
       case b32 => (intro w hSw; have F:=Ok.sees hSw; clear hSw; simp only [sees,and_true] at F; go_simp; (try rw [if_neg (by omega)]); (try rw [if_pos (by omega)]); try with_reducible rfl)
       try simp only [Act.put,wp1,wp2,wp3,wp4,wp5,wp6]
       refine wtg (i:=17) (v:=?a34) rfl ?b34 (by assumption) ?c34
       case b34 => (intro w hSw; have F:=Ok.sees hSw; clear hSw; simp only [sees,and_true] at F; go_simp; (try rw [if_neg (by omega)]); (try rw [if_pos (by omega)]); try with_reducible rfl)
       try simp only [Act.put,wp1,wp2,wp3,wp4,wp5,wp6]
       refine wtg (i:=18) (v:=?a36) rfl ?b36 (by assumption) ?c36
       case b36 => (intro w hSw; have F:=Ok.sees hSw; clear hSw; simp only [sees,and_true] at F; go_simp; (try rw [if_neg (by omega)]); (try rw [if_pos (by omega)]); try with_reducible rfl)
       try simp only [Act.put,wp1,wp2,wp3,wp4,wp5,wp6]
       refine wtg (i:=19) (v:=?a38) rfl ?b38 (by assumption) ?c38
       case b38 => (intro w hSw; have F:=Ok.sees hSw; clear hSw; simp only [sees,and_true] at F; go_simp; (try rw [if_neg (by omega)]); (try rw [if_pos (by omega)]); try with_reducible rfl)
       try simp only [Act.put,wp1,wp2,wp3,wp4,wp5,wp6]
       refine wtg (i:=20) (v:=?a40) rfl ?b40 (by assumption) ?c40
       case b40 => (intro w hSw; have F:=Ok.sees hSw; clear hSw; simp only [sees,and_true] at F; go_simp; (try rw [if_neg (by omega)]); (try rw [if_pos (by omega)]); try with_reducible rfl)
       try simp only [Act.put,wp1,wp2,wp3,wp4,wp5,wp6]
       refine wtg (i:=21) (v:=?a42) rfl ?b42 (by assumption) ?c42
       case b42 => (intro w hSw; have F:=Ok.sees hSw; clear hSw; simp only [sees,and_true] at F; go_simp; (try rw [if_neg (by omega)]); (try rw [if_pos (by omega)]); try with_reducible rfl)
       try simp only [Act.put,wp1,wp2,wp3,wp4,wp5,wp6]
       refine wpAnyH_done (by kernel_rfl) ?_ _
       clear hHeld s0 s1 s2 s3 s4 s5 s6 i1 i2 hzs
       by_cases hg2 : g2 = 0
       ·subst hg2
        have hne9 : t9 ≠ t:=HE4.out t9 g1 (by rw [← HZD.out]; exact HF9.out)
        have HQ9:=keep (eqA_no (any_inj hne9))
        have HL9:=keep (show (t9.map Nd.any).length = t9.length from List.length_map ..)
        have hl9 : t9.length ≤ 1000:=by have:=(form_good HF9.out).2.2.1.len; rw [List.length_map] at this; exact this
        clear hne9
        go_wp2_with fail
        rw [← HL9.out,← HLN.out]
        refine (equal_treeA (t9.map Nd.any) (t.map Nd.any) a9 a1 c9 c1 w31 (by rw [HL9.out]; exact hl9) (by rw [HLN.out]; exact htl) (by rw [any_rows]; exact HR9.out) (by rw [any_rows]; exact H23.out.get (kRowsAt a1 11 (t.map ndRow)) (by simp))).mono ?_
        rintro e w32 ⟨rfl,hb⟩
        rw [HQ9.out,HLN.out]
        have H33:=Lib.hid (H23.out.below hb)
        clear hb
        go_wp2_with fail
        go_roundw
        case rel => exact ⟨k + 1,by omega,by rw [HN.out],by go_num,H33⟩
        case measure => simp [intOf]; omega
       ·have hne : (g2 == 0) = false:=by rw [beq_eq_false_iff_ne]; exact hg2
        go_wp2_with fail
        go_roundw
        case rel => exact ⟨k + 1,by omega,by rw [HN.out],by go_num,H23⟩
        case measure => simp [intOf]; omega
      ·go_wp2_with fail
       go_roundw
       case rel => exact ⟨k + 1,by omega,by rw [HN.out],by go_num,HK⟩
       case measure => simp [intOf]; omega
    ·clear hgl hn hq c34 c40
     go_upto_region 16 with fail
     go_cut [12] (fun cv wx => (∃ cl : Bool,cv = .bool cl) ∧ wp = wx)
     case first =>
      rcases Nat.eq_zero_or_pos k with hk0 | hk0
      ·have e3 : decide ((0 : Int) < (k : Int)) = false:=by simp; omega
       clear hk0
       go_wp2_with fail
       all_goals (go_meet; exact ⟨⟨_,rfl⟩,rfl⟩)
      ·have e4 : (0 : Int) < (k : Int):=by omega
       go_wp2_with fail
       all_goals (go_meet; exact ⟨⟨_,rfl⟩,rfl⟩)
     case rest =>
      obtain ⟨⟨cl,rfl⟩,rfl⟩:=hcut
      go_wp2_with fail
      go_roundw
      case rel => exact ⟨k + 1,by omega,by rw [HN.out],by go_num,HK⟩
      case measure => simp [intOf]; omega
   have e40:=byte_no hn c40 40 rfl
   rw [show ((40 : Nat) : Int) = 40 from rfl] at e40
   have e40n : ((n : Int) != 40) = true:=by rw [bne,e40]; rfl
   clear hgl hn hq c34 c40
   cases q
   ·go_upto_region 16 with fail
    go_cut [12] (fun cv wx => (∃ cl : Bool,cv = .bool cl) ∧ wp = wx)
    case first =>
     rcases Nat.eq_zero_or_pos k with hk0 | hk0
     ·have e3 : decide ((0 : Int) < (k : Int)) = false:=by simp; omega
      clear hk0
      go_wp2_with fail
      all_goals (go_meet; exact ⟨⟨_,rfl⟩,rfl⟩)
     ·have e4 : (0 : Int) < (k : Int):=by omega
      go_wp2_with fail
      all_goals (go_meet; exact ⟨⟨_,rfl⟩,rfl⟩)
    case rest =>
     obtain ⟨⟨cl,rfl⟩,rfl⟩:=hcut
     go_wp2_with fail
     go_roundw
     case rel => exact ⟨k + 1,by omega,by rw [HN.out],by go_num,HK⟩
     case measure => simp [intOf]; omega
   ·go_upto_region 16 with fail
    go_cut [12] (fun cv wx => (∃ cl : Bool,cv = .bool cl) ∧ wp = wx)
    case first =>
     rcases Nat.eq_zero_or_pos k with hk0 | hk0
     ·have e3 : decide ((0 : Int) < (k : Int)) = false:=by simp; omega
      clear hk0
      go_wp2_with fail
      all_goals (go_meet; exact ⟨⟨_,rfl⟩,rfl⟩)
     ·have e4 : (0 : Int) < (k : Int):=by omega
      go_wp2_with fail
      all_goals (go_meet; exact ⟨⟨_,rfl⟩,rfl⟩)
    case rest =>
     obtain ⟨⟨cl,rfl⟩,rfl⟩:=hcut
     go_wp2_with fail
     go_roundw
     case rel => exact ⟨k + 1,by omega,by rw [HN.out],by go_num,HK⟩
     case measure => simp [intOf]; omega
  ·obtain rfl : k = S.size:=by omega
   go_wp2_with fail
   refine (law_awake10 wp (HE.out.below HK.out.bel)).mono ?_
   rintro e w4 ⟨rfl,hb⟩
   have H4:=Lib.hid (HK.out.below hb)
   clear hb HK
   go_wp2_with fail
   go_ret
   exact ⟨rfl,H4.out.bel⟩
end Go.Proofs.YtnbemkiplnanlaaGreatDoor
namespace Go.Proofs.YtnbemkiplnanlaaGreatDoor
open Go.RowKit
theorem ShowTight_walk (s : ByteArray) (w : World) (_hs : s.size ≤ maxLen) (hL : laidMetH Tryz.prog Rows.showTightRow.laid w) (hS : w.ShapedOpen Tryz.prog) :
  Calls Tryz.prog 6 #[.string s] w fun e w' => e = .returned (.bool true) ∧ Below w.heap.size w w' :=
 law_ShowTight s w (env10_of hL hS (by kernel_rfl) (by kernel_rfl))
end Go.Proofs.YtnbemkiplnanlaaGreatDoor
