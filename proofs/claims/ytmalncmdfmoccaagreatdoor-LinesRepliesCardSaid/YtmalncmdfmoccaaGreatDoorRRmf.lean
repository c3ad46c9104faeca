/- The own part of LinesReplies beyond the base that the claims of the seat share. -/
import Derived.Test.YtmalncmdfmoccaaGreatDoorRows
import Derived.WalkKit
import Derived.WalkSpells
import Derived.WalkLawsBesides
import Derived.Lib.Hide
import Derived.Deep.Slices
import Derived.Deep.Fields
import Derived.ChangeSame
import Derived.Lib.LaidTab
import Derived.Laws.OwnMore
import Derived.Deep.Draws
import Derived.Laws.Rows
import Derived.Deep.OwnRows
import Derived.Test.YtmalncmdfmoccaaGreatDoorCKit
import Derived.Deep.RegionHeld3
import Derived.Deep.AppendLies
import Derived.Deep.Onto
import Derived.Test.YtmalncmdfmoccaaGreatDoorCOk
import Derived.Lib.ItoaNum
import Derived.Test.YtmalncmdfmoccaaGreatDoorCAddrP
import Derived.Test.YtmalncmdfmoccaaGreatDoorCIter
import Derived.Test.YtmalncmdfmoccaaGreatDoorCLexP
import Derived.RangeFuncNested
import Derived.RangeFuncBound
import Derived.RangeFuncCalls
import Derived.RangeFuncLeaves
import Derived.RangeFuncBox
import Derived.Shelf.Abstract
import Derived.OwnWalkIn
import Derived.TacticsInMore
import Derived.LoopNIn
import Derived.LoopIn
import Derived.Maps.AppendAt
import Derived.Test.YtmalncmdfmoccaaGreatDoorCMem
import Derived.IntWalk
import Derived.Laws.IdiomStrings
import Derived.Lib.Strings
import Derived.Test.YtmalncmdfmoccaaGreatDoorCLexC
import Derived.Laws.RangeString
import Derived.Laws.RangeAny
import Derived.Laws.BytesArg
import Derived.Lib.BufferRead
import Derived.WalkMore
import Derived.Test.YtmalncmdfmoccaaGreatDoorCLexI
import Derived.Shelf.Strings.Builder1
import Derived.Shelf.Strings.Builder2
import Derived.Shelf.Strings.OnBuilder
import Derived.Shelf.Small.Wraps
import Derived.Shelf.Strings.BuilderF
import Derived.Shelf.Strings.BuilderK
import Derived.Shelf.Utf8.RuneCount
import Derived.Shelf.Strings.Builder2Cap
import Derived.Shelf.Strconv.Atoi
import Derived.Shelf.Strconv.Itoa0
import Derived.Shelf.Strconv.Itoa1
import Derived.Shelf.LaysM
import Derived.Shelf.Strconv.Itoa2
import Derived.Shelf.Strconv.Itoa3
import Derived.Shelf.Strconv.AtoiErrFast
import Derived.Shelf.Strconv.ParseIntEmpty
import Derived.Shelf.Strconv.AtoiFail
import Derived.Shelf.Strconv.Clone
import Derived.Shelf.Strconv.SyntaxError
import Derived.Shelf.LaysC
import Derived.Shelf.Strconv.ToError
import Derived.Shelf.Strconv.AtoiErr
import Derived.Shelf.Strconv.ErrVar
import Derived.Shelf.Strconv.Lower
import Derived.Shelf.Strconv.ParseUint10
import Derived.Shelf.Strconv.ParseUint10Empty
import Derived.Shelf.Strconv.ParseUint10Any
import Derived.Shelf.Strconv.ParseInt10
import Derived.Shelf.Strconv.AtoiLong
import Derived.Shelf.Strconv.AtoiInnerAll
import Derived.Shelf.Strconv.RangeError
import Derived.Shelf.Strconv.ToErrorRange
import Derived.Shelf.Strconv.AtoiAll
import Derived.Shelf.Strconv.ErrVarAll
import Derived.Shelf.Strings.Search1
import Derived.Shelf.Strings.Search2
import Derived.Shelf.Strings.Search3
import Derived.Shelf.Strings.Cut
import Derived.Shelf.Strings.Count
import Derived.Shelf.Strings.Shaped
import Derived.Shelf.GgClosure.StringsIndexFunc
import Derived.Ground.GgwProg
import Derived.Shelf.GgClosure.StringsIndexFuncTop
import Derived.Shelf.GgClosure.StringsRunes
import Derived.Shelf.Strings.Prefix
import Derived.Shelf.Strings.Split
import Derived.Shelf.Strings.Replace
import Derived.Shelf.Strings.SplitShaped
import Derived.Shelf.Unicode.Decode
import Derived.Shelf.Strings.RuneCount
import Derived.Shelf.Strings.Explode
import Derived.Shelf.Unicode.DecodeSlow
import Derived.Shelf.Unicode.DecodeAny
import Derived.Shelf.Strings.FuncGrows
import Derived.Shelf.Strings.BuilderCap
import Derived.Shelf.Slices.Turned
import Derived.Test.YtmalncmdfmoccaaGreatDoorProg
import Derived.Test.YtmalncmdfmoccaaGreatDoorCShelf
import Derived.Test.YtmalncmdfmoccaaGreatDoorCLexO
import Derived.Test.YtmalncmdfmoccaaGreatDoorCHtl
import Derived.Lib.SmallJoins
import Derived.Lib.AppendIntMem
import Derived.BigRegion
import Derived.Test.YtmalncmdfmoccaaGreatDoorCAddrW2
import Derived.Test.YtmalncmdfmoccaaGreatDoorCAddrW3
import Derived.Lib.IndexBytes
import Derived.LaidSub
import Derived.Test.YtmalncmdfmoccaaGreatDoorCGrpF
import Derived.OpenShut
import Derived.Test.YtmalncmdfmoccaaGreatDoorCGrpR
import Derived.Lib.IndexMore
import Derived.Deep.DeepCutAuto
import Derived.Test.YtmalncmdfmoccaaGreatDoorCLexM
import Derived.Test.YtmalncmdfmoccaaGreatDoorCRefC
import Derived.Shelf.Spec.TrailingZeros
import Derived.Test.YtmalncmdfmoccaaGreatDoorCTz
import Derived.Lib.Join
import Derived.Lib.SplitLaws
import Derived.Lib.AtoiAll
import Derived.Test.YtmalncmdfmoccaaGreatDoorCGrpQ
import Derived.Lib.AtoiAllCases
import Derived.Test.YtmalncmdfmoccaaGreatDoorCOpP
import Derived.Stop.LaidErr
import Derived.LaidLaws
import Derived.Deep.RegionHeld
import Derived.Test.YtmalncmdfmoccaaGreatDoorCGrpM
import Derived.Deep.Cut
import Derived.Test.YtmalncmdfmoccaaGreatDoorCParP
import Derived.Test.YtmalncmdfmoccaaGreatDoorCLnP
import Derived.WideMake
import Derived.Carry
import Derived.Test.YtmalncmdfmoccaaGreatDoorCVal
import Derived.Laws.Strings3
import Derived.Deep.LoopGhost
import Derived.Laws.EntriesVeiled
import Derived.Test.YtmalncmdfmoccaaGreatDoorCShP
import Derived.Test.YtmalncmdfmoccaaGreatDoorCEqV
import Derived.Lib.Replace
import Derived.Laws.StructEq
import Derived.Lib.AppendStr
import Derived.Test.YtmalncmdfmoccaaGreatDoorCDecF
import Derived.Test.YtmalncmdfmoccaaGreatDoorCShw
import Derived.Test.YtmalncmdfmoccaaGreatDoorCLnA
import Derived.Test.YtmalncmdfmoccaaGreatDoorCParK
import Derived.Test.YtmalncmdfmoccaaGreatDoorCGiv
import Derived.Test.YtmalncmdfmoccaaGreatDoorCLnB
import Derived.Test.YtmalncmdfmoccaaGreatDoorCLnC
import Derived.Test.YtmalncmdfmoccaaGreatDoorCLnR
import Derived.Test.YtmalncmdfmoccaaGreatDoorCLnE
import Derived.Test.YtmalncmdfmoccaaGreatDoorCLnW
import Derived.Test.YtmalncmdfmoccaaGreatDoorCRcp
import Derived.StillTail
import Derived.Test.YtmalncmdfmoccaaGreatDoorCRme
import Derived.Test.YtmalncmdfmoccaaGreatDoorCRefG
import Derived.Test.YtmalncmdfmoccaaGreatDoorCRvk
import Derived.Test.YtmalncmdfmoccaaGreatDoorCRng
import Derived.Test.YtmalncmdfmoccaaGreatDoorCRma
import Derived.Test.YtmalncmdfmoccaaGreatDoorCRmb
import Derived.Test.YtmalncmdfmoccaaGreatDoorCRlk
import Derived.Test.YtmalncmdfmoccaaGreatDoorCRmc
import Derived.Test.YtmalncmdfmoccaaGreatDoorCRmd
import Derived.Lib.AtoiErrMem
import Derived.Test.YtmalncmdfmoccaaGreatDoorCLnQ
import Derived.Test.YtmalncmdfmoccaaGreatDoorCLnL
import Derived.Test.YtmalncmdfmoccaaGreatDoorCLnK
import Derived.ChangeArms
import Derived.ShutString
import Derived.ChangeOld
import Derived.SizedLaws
import Derived.Test.YtmalncmdfmoccaaGreatDoorCLnG
namespace Go.Proofs.YtmalncmdfmoccaaGreatDoor
section
variable {P : Program} {md : Region.Mode} {ops : Array Oper} {Q : Exit → Act → World → Prop} {S : World → Prop} {i : Nat} {oi : Oper} {v : Value} {fuel : Nat} {listed : Array Bool} {a : Act} {w : World}
theorem wtg (hi : ops[i]? = some oi) (hy : ∀ W,S W → (execOp a.eval oi).run P W = .ok (.value v) W) (hS : S w)
 (h : wpAnyH P md ops Q S fuel (listed.setIfInBounds i true) (a.put oi.dst v) w)
 (hs : Region.noSelect ops = true:=by kernel_rfl) (hf : Region.free md ops listed i = true:=by kernel_rfl) (hr : (Region.ready md ops listed).contains i = true:=by kernel_rfl)
 (hQ : ∀ c a w,Q (.panic c) (a.put oi.dst v) w → Q (.panic c) a w:=by exact fun _ _ _ h => h) (hw : Region.wanted oi (yielded ops a.tmps) = true:=by rfl) : wpAnyH P md ops Q S (fuel + 1) listed a w :=
 wpAnyH_take hi hs hf hr hQ (.inl ⟨hw,hy⟩) hS h
theorem wsg (hi : ops[i]? = some oi) (hS : S w)
 (h : wpAnyH P md ops Q S fuel (listed.setIfInBounds i true) (a.put oi.dst undef) w)
 (hs : Region.noSelect ops = true:=by kernel_rfl) (hf : Region.free md ops listed i = true:=by kernel_rfl) (hr : (Region.ready md ops listed).contains i = true:=by kernel_rfl)
 (hQ : ∀ c a w,Q (.panic c) (a.put oi.dst undef) w → Q (.panic c) a w:=by exact fun _ _ _ h => h) (hw : Region.wanted oi (yielded ops a.tmps) = false:=by rfl) : wpAnyH P md ops Q S (fuel + 1) listed a w :=
 wpAnyH_take hi hs hf hr hQ (.inr ⟨hw,rfl⟩) hS h
theorem wsk {a' : Act} (hi : ops[i]? = some oi) (hS : S w)
 (h : wpAnyH P md ops Q S fuel (listed.setIfInBounds i true) a' w)
 (ha : a.put oi.dst undef = a':=by ((try simp only [Act.put,List.setIfInBounds_toArray,List.set_cons_zero,List.set_cons_succ,List.getElem_toArray,List.getElem_cons_succ,List.getElem_cons_zero]); exact rfl))
 (hs : Region.noSelect ops = true:=by kernel_rfl) (hf : Region.free md ops listed i = true:=by kernel_rfl) (hr : (Region.ready md ops listed).contains i = true:=by kernel_rfl)
 (hQ : ∀ c a w,Q (.panic c) (a.put oi.dst undef) w → Q (.panic c) a w:=by exact fun _ _ _ h => h) (hw : Region.wanted oi (yielded ops a.tmps) = false:=by rfl) : wpAnyH P md ops Q S (fuel + 1) listed a w :=
 wpAnyH_take hi hs hf hr hQ (.inr ⟨hw,rfl⟩) hS (ha ▸ h)
theorem wal (ho : ops[i]? = some oi)
 (h : ∀ K' : Act → World → Prop,Shut (∀ (a : Act) (w : World),S w → (S w → wpAnyH P md ops Q S fuel (listed.setIfInBounds i true) a w) → K' a w) → if Region.wanted oi (yielded ops a.tmps) = true then Oper.wp P oi a w K' Q else K' (a.put oi.dst undef) w)
 (hr : Region.ready md ops listed = [i]:=by kernel_rfl) : wpAnyH P md ops Q S (fuel + 1) listed a w :=
 wpAnyH_ready hr (by simp) (AllReadyH.cons ho h AllReadyH.nil)
theorem wtn (hi : ops[i]? = some oi) (hy : ∀ W,(execOp a.eval oi).run P W = .ok (.value v) W)
 (h : wpAny P md ops Q fuel (listed.setIfInBounds i true) (a.put oi.dst v) w)
 (hs : Region.noSelect ops = true:=by kernel_rfl) (hf : Region.free md ops listed i = true:=by kernel_rfl) (hr : (Region.ready md ops listed).contains i = true:=by kernel_rfl)
 (hQ : ∀ c a w,Q (.panic c) (a.put oi.dst v) w → Q (.panic c) a w:=by exact fun _ _ _ h => h) (hw : Region.wanted oi (yielded ops a.tmps) = true:=by rfl) : wpAny P md ops Q (fuel + 1) listed a w :=
 wpAny_take hi hs hf hr hQ (.inl ⟨hw,hy⟩) h
theorem wp1 {α : Type} (l : List α) (i : Nat) (a : α) : l.toArray.setIfInBounds i a = (l.set i a).toArray:=List.setIfInBounds_toArray ..
theorem wp4 {α : Type} {l : List α} {i : Nat} (h : i < l.toArray.size) : l.toArray[i] = l[i]'(by simpa using h):=rfl
theorem wp5 {α : Type} {x : α} {l : List α} {i : Nat} (h : i + 1 < (x :: l).length) : (x :: l)[i + 1] = l[i]'(by simpa using h):=rfl
theorem wp6 {α : Type} {x : α} {l : List α} (h : 0 < (x :: l).length) : (x :: l)[0] = x:=rfl
theorem wp2 {α : Type} {x : α} {l : List α} {a : α} : (x :: l).set 0 a = a :: l:=rfl
theorem wp3 {α : Type} {x : α} {l : List α} {i : Nat} {a : α} : (x :: l).set (i + 1) a = x :: l.set i a:=rfl
variable {w0 : World} {ps : List Pers} {a' : Act}
theorem wt3 (hi : ops[i]? = some oi) (hS : Ok w0 ps w)
 (h : wpAnyH P md ops Q (fun W => Ok w0 ps W) fuel (listed.setIfInBounds i true) a' w)
 (hy : ∀ W,Ok w0 ps W → (execOp a.eval oi).run P W = .ok (.value v) W:=by (intro w hSw; have F:=Ok.sees hSw; clear hSw; simp only [sees,kBlk,kVar,kCells,cellsFrom,cellsAt,Nat.add_zero,Nat.reduceAdd,and_true] at F; go_simp; try with_reducible rfl))
 (ha : a.put oi.dst v = a':=by ((try simp only [Act.put,List.setIfInBounds_toArray,List.set_cons_zero,List.set_cons_succ,List.getElem_toArray,List.getElem_cons_succ,List.getElem_cons_zero]); exact rfl))
 (hs : Region.noSelect ops = true:=by kernel_rfl) (hf : Region.free md ops listed i = true:=by kernel_rfl) (hr : (Region.ready md ops listed).contains i = true:=by kernel_rfl)
 (hQ : ∀ c a w,Q (.panic c) (a.put oi.dst v) w → Q (.panic c) a w:=by exact fun _ _ _ h => h) (hw : Region.wanted oi (yielded ops a.tmps) = true:=by rfl) : wpAnyH P md ops Q (fun W => Ok w0 ps W) (fuel + 1) listed a w :=
 wpAnyH_take hi hs hf hr hQ (.inl ⟨hw,hy⟩) hS (ha ▸ h)
theorem wt4 (hi : ops[i]? = some oi) (hS : Ok w0 ps w)
 (h : wpAnyH P md ops Q (fun W => Ok w0 ps W) fuel (listed.setIfInBounds i true) a' w)
 (hy : ∀ W,Ok w0 ps W → (execOp a.eval oi).run P W = .ok (.value v) W:=by (intro w hSw; have F:=Ok.sees hSw; clear hSw; simp only [sees,kBlk,kVar,kCells,cellsFrom,cellsAt,Nat.add_zero,Nat.reduceAdd,and_true] at F; go_simp; (try rw [if_neg (by omega)]); try with_reducible rfl))
 (ha : a.put oi.dst v = a':=by ((try simp only [Act.put,List.setIfInBounds_toArray,List.set_cons_zero,List.set_cons_succ,List.getElem_toArray,List.getElem_cons_succ,List.getElem_cons_zero]); exact rfl))
 (hs : Region.noSelect ops = true:=by kernel_rfl) (hf : Region.free md ops listed i = true:=by kernel_rfl) (hr : (Region.ready md ops listed).contains i = true:=by kernel_rfl)
 (hQ : ∀ c a w,Q (.panic c) (a.put oi.dst v) w → Q (.panic c) a w:=by exact fun _ _ _ h => h) (hw : Region.wanted oi (yielded ops a.tmps) = true:=by rfl) : wpAnyH P md ops Q (fun W => Ok w0 ps W) (fuel + 1) listed a w :=
 wpAnyH_take hi hs hf hr hQ (.inl ⟨hw,hy⟩) hS (ha ▸ h)
end
end Go.Proofs.YtmalncmdfmoccaaGreatDoor
namespace Go.Proofs.YtmalncmdfmoccaaGreatDoor
set_option maxRecDepth 100000
set_option maxHeartbeats 8000000
open Go.RowKit
theorem law_LinesReplies (c : Nat) (at_ : Int) (grid : List VlL) (TX : ByteArray) (evs : List EvD) (rls : List RlD) (ct : Int) (ga ea ra : Option Addr) (gc ec rc : Nat) (w : World) (hin : RpIn ⟨c,at_,grid,TX.data.toList,evs,rls,ct⟩) (h1 : RowsAt w ga 3 (grid.map vlRow)) (h2 : RowsAt w ea 9 (evs.map evRow)) (h3 : RowsAt w ra 11 (rls.map rlRow)) (he : LEnv w) :
  Calls Tryz.prog 3 #[.agg #[.int .u8 (c : Nat),.int .i64 at_,.slice ga grid.length gc,.string TX,.slice ea evs.length ec,.slice ra rls.length rc,.int .i64 ct]] w fun e w' => e = .returned (.bool true) ∧ Below w.heap.size w w':=by
 have HE:=keep he
 have HK:=keep (fun W h => law_known42 W h)
 have WX:=keep (fun W (h : Below w.heap.size w W) => law_wide c at_ grid TX evs rls ct ga ea ra gc ec rc W (h1.below h) hin.gl)
 have CP:=keep (fun (hv : wideB ⟨c,at_,grid,TX.data.toList,evs,rls,ct⟩ = false) W (h : Below w.heap.size w W) => copy_reply c at_ grid TX evs rls ct ga ea ra gc ec rc W (h1.below h) (h2.below h) (h3.below h) (by have:=(hin.ok hv).gl; simp only at this; omega) (by have:=(hin.ok hv).el; simp only at this; omega) (by have:=(hin.ok hv).rl; simp only at this; omega))
 have RX:=keep (fun (hv : wideB ⟨c,at_,grid,TX.data.toList,evs,rls,ct⟩ = false) W (h : Below w.heap.size w W) a1 a2 a3 c1 c2 c3 g1 g2 g3 => ln_reply c at_ grid TX evs rls ct a1 a2 a3 c1 c2 c3 W (hin.ok hv) hin.code (by have:=(wider_small hv).2.2.2.1; rw [sizeLn] at this; omega) (fun v hm => by have:=(wider_small hv).2.2.2.2 v hm; omega) g1 g2 g3 (HE.out.below h))
 have RR:=keep (fun (hv : wideB ⟨c,at_,grid,TX.data.toList,evs,rls,ct⟩ = false) W (h : Below w.heap.size w W) => rn_reply c at_ grid TX evs rls ct ga ea ra gc ec rc W (hin.ok hv) hin.code (by have:=(wider_small hv).2.2.2.1; rw [sizeLn] at this; omega) (fun v hm => by have:=(wider_small hv).2.2.2.2 v hm; omega) (h1.below h) (h2.below h) (h3.below h))
 have EQ:=keep (fun (hv : wideB ⟨c,at_,grid,TX.data.toList,evs,rls,ct⟩ = false) W (h : Below w.heap.size w W) a1 a2 a3 c1 c2 c3 g1 g2 g3 => equal_reply c at_ grid TX evs rls ct a1 a2 a3 c1 c2 c3 c at_ grid TX evs rls ct ga ea ra gc ec rc W g1 g2 g3 (hin.ok hv).gl (hin.ok hv).el (hin.ok hv).rl (h1.below h) (h2.below h) (h3.below h) (hin.ok hv).gl (hin.ok hv).el (hin.ok hv).rl)
 clear hin h1 h2 h3 he
 rw [show eqR ⟨c,at_,grid,TX.data.toList,evs,rls,ct⟩ ⟨c,at_,grid,TX.data.toList,evs,rls,ct⟩ = true from (eqR_iff _ _).2 rfl] at EQ
 obtain ⟨va,hva⟩ : ∃ b,wideB ⟨c,at_,grid,TX.data.toList,evs,rls,ct⟩ = b:=⟨_,rfl⟩
 rw [hva] at WX CP RX RR EQ
 clear hva
 obtain ⟨PX,hPX⟩ : ∃ p,replyE ⟨c,at_,grid,TX.data.toList,evs,rls,ct⟩ = p:=⟨_,rfl⟩
 rw [hPX] at RX RR
 clear hPX
 obtain ⟨lx,ex⟩:=PX
 dsimp only at RX RR
 obtain ⟨SX,hSX⟩ : ∃ S : ByteArray,⟨lx.toArray⟩ = S:=⟨_,rfl⟩
 rw [hSX] at RX RR
 clear hSX
 obtain ⟨gn,hgn⟩ : ∃ n,grid.length = n:=⟨_,rfl⟩
 obtain ⟨en,hen⟩ : ∃ n,evs.length = n:=⟨_,rfl⟩
 obtain ⟨rn,hrn⟩ : ∃ n,rls.length = n:=⟨_,rfl⟩
 rw [hgn,hen,hrn] at WX CP RX RR EQ ⊢
 clear hgn hen hrn
 have H1:=Lib.hid ((Ok.start w).alloc w.heap.size 26 [.int .u8 (c : Nat),.int .i64 at_,.slice ga gn gc,.string TX,.slice ea en ec,.slice ra rn rc,.int .i64 ct] rfl)
 go_enter Tryz.func3,Tryz.ntmps3
 go_upto_region 1 with fail
 generalize (w.alloc (.cells #[.int .u8 (c : Nat),.int .i64 at_,.slice ga gn gc,.string TX,.slice ea en ec,.slice ra rn rc,.int .i64 ct] 26)) = W2 at H1 ⊢
 have F3:=H1.out.sees
 simp only [sees,kBlk,cellsAt,Nat.reduceAdd] at F3
 obtain ⟨⟨z0,c0_0,c0_1,c0_2,c0_3,c0_4,c0_5,c0_6,-⟩,-⟩:=F3
 go_wp2_with fail
 refine (WX.out _ H1.out.bel).mono ?_
 rintro e w4 ⟨rfl,hb5⟩
 clear z0 c0_0 c0_1 c0_2 c0_3 c0_4 c0_5 c0_6
 have H6:=Lib.hid (H1.out.below hb5)
 clear hb5 H1
 have F7:=H6.out.sees
 simp only [sees,kBlk,cellsAt,Nat.reduceAdd] at F7
 obtain ⟨⟨z0,c0_0,c0_1,c0_2,c0_3,c0_4,c0_5,c0_6,-⟩,-⟩:=F7
 cases va
 ·go_wp2_with fail
  refine (CP.out (by trivial) _ H6.out.bel).mono ?_
  rintro e w8 ⟨a1,c1,a2,c2,a3,c3,rfl,g1,g2,g3,hb⟩
  obtain ⟨KF,hKF⟩ : ∃ K : Pers,K = kFact w8.heap.size (fun W => Below w8.heap.size w8 W) (fun _ _ hb h => h.trans hb):=⟨_,rfl⟩
  have HKF:=keep (show ∀ W,KF.p W → RowsAt W a1 3 (grid.map vlRow) ∧ RowsAt W a2 9 (evs.map evRow) ∧ RowsAt W a3 11 (rls.map rlRow) from by rw [hKF]; exact fun _ h => ⟨g1.below h.1,g2.below h.1,g3.below h.1⟩)
  have hkp : KF.p w8:=by rw [hKF]; exact ⟨Below.refl _ _,Nat.le_refl _⟩
  clear z0 c0_0 c0_1 c0_2 c0_3 c0_4 c0_5 c0_6
  have H8:=Lib.hid ((H6.out.below hb).add KF hkp)
  clear hb hkp hKF g1 g2 g3 H6
  have F9:=H8.out.sees
  simp only [sees,kBlk,cellsAt,Nat.reduceAdd] at F9
  obtain ⟨-,⟨z1,c1_0,c1_1,c1_2,c1_3,c1_4,c1_5,c1_6,-⟩,-⟩:=F9
  go_wp2_with fail
  clear z1 c1_0 c1_1 c1_2 c1_3 c1_4 c1_5 c1_6
  have H10:=Lib.hid (H8.out.alloc w8.heap.size 26 [.int .u8 (c : Nat),.int .i64 at_,.slice a1 gn c1,.string TX,.slice a2 en c2,.slice a3 rn c3,.int .i64 ct] rfl)
  clear H8
  generalize (w8.alloc (.cells #[.int .u8 (c : Nat),.int .i64 at_,.slice a1 gn c1,.string TX,.slice a2 en c2,.slice a3 rn c3,.int .i64 ct] 26)) = W11 at H10 ⊢
  have F12:=H10.out.sees
  simp only [sees,kBlk,cellsAt,Nat.reduceAdd] at F12
  obtain ⟨⟨z0,c0_0,c0_1,c0_2,c0_3,c0_4,c0_5,c0_6,-⟩,-,⟨z2,c2_0,c2_1,c2_2,c2_3,c2_4,c2_5,c2_6,-⟩,-⟩:=F12
  refine (RX.out (by trivial) _ H10.out.bel a1 a2 a3 c1 c2 c3 (HKF.out _ (H10.out.get KF (by simp))).1 (HKF.out _ (H10.out.get KF (by simp))).2.1 (HKF.out _ (H10.out.get KF (by simp))).2.2).mono ?_
  rintro e w13 ⟨rfl,hb14⟩
  clear z0 c0_0 c0_1 c0_2 c0_3 c0_4 c0_5 c0_6 z2 c2_0 c2_1 c2_2 c2_3 c2_4 c2_5 c2_6
  have H15:=Lib.hid (H10.out.below hb14)
  clear hb14 H10
  have F16:=H15.out.sees
  simp only [sees,kBlk,cellsAt,Nat.reduceAdd] at F16
  obtain ⟨⟨z0,c0_0,c0_1,c0_2,c0_3,c0_4,c0_5,c0_6,-⟩,-,⟨z2,c2_0,c2_1,c2_2,c2_3,c2_4,c2_5,c2_6,-⟩,-⟩:=F16
  go_wp2_with fail
  refine (RR.out (by trivial) _ H15.out.bel).mono ?_
  rintro e w17 ⟨rfl,hb18⟩
  clear z0 c0_0 c0_1 c0_2 c0_3 c0_4 c0_5 c0_6 z2 c2_0 c2_1 c2_2 c2_3 c2_4 c2_5 c2_6
  have H19:=Lib.hid (H15.out.below hb18)
  clear hb18 H15
  have F20:=H19.out.sees
  simp only [sees,kBlk,cellsAt,Nat.reduceAdd] at F20
  obtain ⟨⟨z0,c0_0,c0_1,c0_2,c0_3,c0_4,c0_5,c0_6,-⟩,-,⟨z2,c2_0,c2_1,c2_2,c2_3,c2_4,c2_5,c2_6,-⟩,-⟩:=F20
  go_wp2_with fail
  refine (EQ.out (by trivial) _ H19.out.bel a1 a2 a3 c1 c2 c3 (HKF.out _ (H19.out.get KF (by simp))).1 (HKF.out _ (H19.out.get KF (by simp))).2.1 (HKF.out _ (H19.out.get KF (by simp))).2.2).mono ?_
  rintro e w21 ⟨rfl,hb22⟩
  clear z0 c0_0 c0_1 c0_2 c0_3 c0_4 c0_5 c0_6 z2 c2_0 c2_1 c2_2 c2_3 c2_4 c2_5 c2_6
  have H23:=Lib.hid (H19.out.below hb22)
  clear hb22 H19
  have F24:=H23.out.sees
  simp only [sees,kBlk,cellsAt,Nat.reduceAdd] at F24
  obtain ⟨⟨z0,c0_0,c0_1,c0_2,c0_3,c0_4,c0_5,c0_6,-⟩,-,⟨z2,c2_0,c2_1,c2_2,c2_3,c2_4,c2_5,c2_6,-⟩,-⟩:=F24
  go_wp2_with fail
  go_ret
  exact ⟨rfl,H23.out.bel⟩
 ·go_wp2_with fail
  refine (HK.out _ (HE.out.below H6.out.bel)).mono ?_
  rintro e w8 ⟨rfl,hb9⟩
  clear z0 c0_0 c0_1 c0_2 c0_3 c0_4 c0_5 c0_6
  have H10:=Lib.hid (H6.out.below hb9)
  clear hb9 H6
  go_wp2_with fail
  go_ret
  exact ⟨rfl,H10.out.bel⟩
theorem LinesReplies_walk (c : Nat) (at_ : Int) (grid : List VlL) (TX : ByteArray) (evs : List EvD) (rls : List RlD) (ct : Int) (ga ea ra : Option Addr) (gc ec rc : Nat) (w : World) (hin : RpIn ⟨c,at_,grid,TX.data.toList,evs,rls,ct⟩) (h1 : RowsAt w ga 3 (grid.map vlRow)) (h2 : RowsAt w ea 9 (evs.map evRow)) (h3 : RowsAt w ra 11 (rls.map rlRow)) (hL : laidMetH Tryz.prog Rows.linesRepliesRow.laid w) (hS : w.ShapedOpen Tryz.prog) :
  Calls Tryz.prog 3 #[.agg #[.int .u8 (c : Nat),.int .i64 at_,.slice ga grid.length gc,.string TX,.slice ea evs.length ec,.slice ra rls.length rc,.int .i64 ct]] w fun e w' => e = .returned (.bool true) ∧ Below w.heap.size w w' :=
 law_LinesReplies c at_ grid TX evs rls ct ga ea ra gc ec rc w hin h1 h2 h3 (lenv_of hL hS (by kernel_rfl) (by kernel_rfl) (by kernel_rfl) (by kernel_rfl) (by kernel_rfl))
end Go.Proofs.YtmalncmdfmoccaaGreatDoor
