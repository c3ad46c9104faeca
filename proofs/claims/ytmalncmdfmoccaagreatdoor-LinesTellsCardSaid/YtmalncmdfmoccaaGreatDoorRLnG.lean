/- The own part of LinesTells beyond the base that the claims of the seat share. -/
import Derived.Test.YtmalncmdfmoccaaGreatDoorRows
import Derived.WalkKit
import Derived.WalkSpells
import Derived.WalkLawsBesides
import Derived.Lib.Hide
import Derived.Deep.Slices
import Derived.Deep.Fields
import Derived.ChangeSame
import Derived.Lib.LaidTab
import Derived.Laws.OwnMore
import Derived.Deep.Draws
import Derived.Laws.Rows
import Derived.Deep.OwnRows
import Derived.Test.YtmalncmdfmoccaaGreatDoorBKit
import Derived.Deep.RegionHeld3
import Derived.Deep.AppendLies
import Derived.Deep.Onto
import Derived.Test.YtmalncmdfmoccaaGreatDoorBOk
import Derived.Test.YtmalncmdfmoccaaGreatDoorBCut
import Derived.Lib.ItoaNum
import Derived.Test.YtmalncmdfmoccaaGreatDoorBAddrP
import Derived.Test.YtmalncmdfmoccaaGreatDoorBRectW
import Derived.Test.YtmalncmdfmoccaaGreatDoorBLexP
import Derived.RangeFuncNested
import Derived.RangeFuncBound
import Derived.RangeFuncCalls
import Derived.RangeFuncLeaves
import Derived.RangeFuncBox
import Derived.Shelf.Abstract
import Derived.OwnWalkIn
import Derived.TacticsInMore
import Derived.LoopNIn
import Derived.LoopIn
import Derived.Maps.AppendAt
import Derived.Test.YtmalncmdfmoccaaGreatDoorBIter
import Derived.Test.YtmalncmdfmoccaaGreatDoorBMem
import Derived.IntWalk
import Derived.Laws.IdiomStrings
import Derived.Lib.Strings
import Derived.Test.YtmalncmdfmoccaaGreatDoorBLexC
import Derived.Laws.RangeString
import Derived.Laws.RangeAny
import Derived.Laws.BytesArg
import Derived.Lib.BufferRead
import Derived.WalkMore
import Derived.Test.YtmalncmdfmoccaaGreatDoorBLexI
import Derived.Shelf.Strings.Builder1
import Derived.Shelf.Strings.Builder2
import Derived.Shelf.Strings.OnBuilder
import Derived.Shelf.Small.Wraps
import Derived.Shelf.Strings.BuilderF
import Derived.Shelf.Strings.BuilderK
import Derived.Shelf.Utf8.RuneCount
import Derived.Shelf.Strings.Builder2Cap
import Derived.Shelf.Strconv.Atoi
import Derived.Shelf.Strconv.Itoa0
import Derived.Shelf.Strconv.Itoa1
import Derived.Shelf.LaysM
import Derived.Shelf.Strconv.Itoa2
import Derived.Shelf.Strconv.Itoa3
import Derived.Shelf.Strconv.AtoiErrFast
import Derived.Shelf.Strconv.ParseIntEmpty
import Derived.Shelf.Strconv.AtoiFail
import Derived.Shelf.Strconv.Clone
import Derived.Shelf.Strconv.SyntaxError
import Derived.Shelf.LaysC
import Derived.Shelf.Strconv.ToError
import Derived.Shelf.Strconv.AtoiErr
import Derived.Shelf.Strconv.ErrVar
import Derived.Shelf.Strconv.Lower
import Derived.Shelf.Strconv.ParseUint10
import Derived.Shelf.Strconv.ParseUint10Empty
import Derived.Shelf.Strconv.ParseUint10Any
import Derived.Shelf.Strconv.ParseInt10
import Derived.Shelf.Strconv.AtoiLong
import Derived.Shelf.Strconv.AtoiInnerAll
import Derived.Shelf.Strconv.RangeError
import Derived.Shelf.Strconv.ToErrorRange
import Derived.Shelf.Strconv.AtoiAll
import Derived.Shelf.Strconv.ErrVarAll
import Derived.Shelf.Strings.Search1
import Derived.Shelf.Strings.Search2
import Derived.Shelf.Strings.Search3
import Derived.Shelf.Strings.Cut
import Derived.Shelf.Strings.Count
import Derived.Shelf.Strings.Shaped
import Derived.Shelf.GgClosure.StringsIndexFunc
import Derived.Ground.GgwProg
import Derived.Shelf.GgClosure.StringsIndexFuncTop
import Derived.Shelf.GgClosure.StringsRunes
import Derived.Shelf.Strings.Prefix
import Derived.Shelf.Strings.Split
import Derived.Shelf.Strings.Replace
import Derived.Shelf.Strings.SplitShaped
import Derived.Shelf.Unicode.Decode
import Derived.Shelf.Strings.RuneCount
import Derived.Shelf.Strings.Explode
import Derived.Shelf.Unicode.DecodeSlow
import Derived.Shelf.Unicode.DecodeAny
import Derived.Shelf.Strings.FuncGrows
import Derived.Shelf.Strings.BuilderCap
import Derived.Shelf.Slices.Turned
import Derived.Test.YtmalncmdfmoccaaGreatDoorProg
import Derived.Test.YtmalncmdfmoccaaGreatDoorBShelf
import Derived.Test.YtmalncmdfmoccaaGreatDoorBLexJ
import Derived.Test.YtmalncmdfmoccaaGreatDoorBMapK
import Derived.Test.YtmalncmdfmoccaaGreatDoorBRound
import Derived.Lib.SmallJoins
import Derived.Lib.AppendIntMem
import Derived.BigRegion
import Derived.Test.YtmalncmdfmoccaaGreatDoorBAddrW3
import Derived.Lib.IndexBytes
import Derived.LaidSub
import Derived.Test.YtmalncmdfmoccaaGreatDoorBGrpJ
import Derived.OpenShut
import Derived.Test.YtmalncmdfmoccaaGreatDoorBRectF
import Derived.Lib.IndexMore
import Derived.Deep.DeepCutAuto
import Derived.Test.YtmalncmdfmoccaaGreatDoorBParA
import Derived.Shelf.Spec.TrailingZeros
import Derived.Test.YtmalncmdfmoccaaGreatDoorBTz
import Derived.Test.YtmalncmdfmoccaaGreatDoorBGrpF
import Derived.Lib.Join
import Derived.Lib.SplitLaws
import Derived.Lib.AtoiAll
import Derived.Test.YtmalncmdfmoccaaGreatDoorBGrpQ
import Derived.Lib.AtoiAllCases
import Derived.Test.YtmalncmdfmoccaaGreatDoorBOpP
import Derived.Stop.LaidErr
import Derived.LaidLaws
import Derived.Deep.RegionHeld
import Derived.Test.YtmalncmdfmoccaaGreatDoorBGrpM
import Derived.Deep.Cut
import Derived.Test.YtmalncmdfmoccaaGreatDoorBParP
import Derived.Test.YtmalncmdfmoccaaGreatDoorBOpF
import Derived.WideMake
import Derived.Carry
import Derived.Test.YtmalncmdfmoccaaGreatDoorBVal
import Derived.Test.YtmalncmdfmoccaaGreatDoorBDpP
import Derived.Laws.Strings3
import Derived.Deep.LoopGhost
import Derived.Test.YtmalncmdfmoccaaGreatDoorBLexM
import Derived.Laws.EntriesVeiled
import Derived.Test.YtmalncmdfmoccaaGreatDoorBShP
import Derived.Lib.Replace
import Derived.Test.YtmalncmdfmoccaaGreatDoorBLexO
import Derived.Laws.StructEq
import Derived.Test.YtmalncmdfmoccaaGreatDoorBEqV
import Derived.Lib.AppendStr
import Derived.Test.YtmalncmdfmoccaaGreatDoorBDecF
import Derived.Test.YtmalncmdfmoccaaGreatDoorBShw
import Derived.Test.YtmalncmdfmoccaaGreatDoorBLnA
import Derived.Test.YtmalncmdfmoccaaGreatDoorBParK
import Derived.Test.YtmalncmdfmoccaaGreatDoorBShL
import Derived.Test.YtmalncmdfmoccaaGreatDoorBDcB
import Derived.Test.YtmalncmdfmoccaaGreatDoorBLnP
import Derived.Test.YtmalncmdfmoccaaGreatDoorBLnB
import Derived.Test.YtmalncmdfmoccaaGreatDoorBLnC
import Derived.Test.YtmalncmdfmoccaaGreatDoorBLnR
import Derived.Test.YtmalncmdfmoccaaGreatDoorBLnE
import Derived.Test.YtmalncmdfmoccaaGreatDoorBLnW
import Derived.Lib.AtoiErrMem
import Derived.Test.YtmalncmdfmoccaaGreatDoorBLnQ
import Derived.Test.YtmalncmdfmoccaaGreatDoorBLnL
import Derived.Test.YtmalncmdfmoccaaGreatDoorBLnK
import Derived.Test.YtmalncmdfmoccaaGreatDoorBLnT
import Derived.ChangeArms
import Derived.Test.YtmalncmdfmoccaaGreatDoorBGiv
import Derived.ShutString
import Derived.ChangeOld
import Derived.SizedLaws
namespace Go.Proofs.YtmalncmdfmoccaaGreatDoor
section
variable {P : Program} {md : Region.Mode} {ops : Array Oper} {Q : Exit → Act → World → Prop} {S : World → Prop} {i : Nat} {oi : Oper} {v : Value} {fuel : Nat} {listed : Array Bool} {a : Act} {w : World}
theorem wtg (hi : ops[i]? = some oi) (hy : ∀ W,S W → (execOp a.eval oi).run P W = .ok (.value v) W) (hS : S w)
 (h : wpAnyH P md ops Q S fuel (listed.setIfInBounds i true) (a.put oi.dst v) w)
 (hs : Region.noSelect ops = true:=by kernel_rfl) (hf : Region.free md ops listed i = true:=by kernel_rfl) (hr : (Region.ready md ops listed).contains i = true:=by kernel_rfl)
 (hQ : ∀ c a w,Q (.panic c) (a.put oi.dst v) w → Q (.panic c) a w:=by exact fun _ _ _ h => h) (hw : Region.wanted oi (yielded ops a.tmps) = true:=by rfl) : wpAnyH P md ops Q S (fuel + 1) listed a w :=
 wpAnyH_take hi hs hf hr hQ (.inl ⟨hw,hy⟩) hS h
theorem wsg (hi : ops[i]? = some oi) (hS : S w)
 (h : wpAnyH P md ops Q S fuel (listed.setIfInBounds i true) (a.put oi.dst undef) w)
 (hs : Region.noSelect ops = true:=by kernel_rfl) (hf : Region.free md ops listed i = true:=by kernel_rfl) (hr : (Region.ready md ops listed).contains i = true:=by kernel_rfl)
 (hQ : ∀ c a w,Q (.panic c) (a.put oi.dst undef) w → Q (.panic c) a w:=by exact fun _ _ _ h => h) (hw : Region.wanted oi (yielded ops a.tmps) = false:=by rfl) : wpAnyH P md ops Q S (fuel + 1) listed a w :=
 wpAnyH_take hi hs hf hr hQ (.inr ⟨hw,rfl⟩) hS h
theorem wsk {a' : Act} (hi : ops[i]? = some oi) (hS : S w)
 (h : wpAnyH P md ops Q S fuel (listed.setIfInBounds i true) a' w)
 (ha : a.put oi.dst undef = a':=by ((try simp only [Act.put,List.setIfInBounds_toArray,List.set_cons_zero,List.set_cons_succ,List.getElem_toArray,List.getElem_cons_succ,List.getElem_cons_zero]); exact rfl))
 (hs : Region.noSelect ops = true:=by kernel_rfl) (hf : Region.free md ops listed i = true:=by kernel_rfl) (hr : (Region.ready md ops listed).contains i = true:=by kernel_rfl)
 (hQ : ∀ c a w,Q (.panic c) (a.put oi.dst undef) w → Q (.panic c) a w:=by exact fun _ _ _ h => h) (hw : Region.wanted oi (yielded ops a.tmps) = false:=by rfl) : wpAnyH P md ops Q S (fuel + 1) listed a w :=
 wpAnyH_take hi hs hf hr hQ (.inr ⟨hw,rfl⟩) hS (ha ▸ h)
theorem wal (ho : ops[i]? = some oi)
 (h : ∀ K' : Act → World → Prop,Shut (∀ (a : Act) (w : World),S w → (S w → wpAnyH P md ops Q S fuel (listed.setIfInBounds i true) a w) → K' a w) → if Region.wanted oi (yielded ops a.tmps) = true then Oper.wp P oi a w K' Q else K' (a.put oi.dst undef) w)
 (hr : Region.ready md ops listed = [i]:=by kernel_rfl) : wpAnyH P md ops Q S (fuel + 1) listed a w :=
 wpAnyH_ready hr (by simp) (AllReadyH.cons ho h AllReadyH.nil)
theorem wtn (hi : ops[i]? = some oi) (hy : ∀ W,(execOp a.eval oi).run P W = .ok (.value v) W)
 (h : wpAny P md ops Q fuel (listed.setIfInBounds i true) (a.put oi.dst v) w)
 (hs : Region.noSelect ops = true:=by kernel_rfl) (hf : Region.free md ops listed i = true:=by kernel_rfl) (hr : (Region.ready md ops listed).contains i = true:=by kernel_rfl)
 (hQ : ∀ c a w,Q (.panic c) (a.put oi.dst v) w → Q (.panic c) a w:=by exact fun _ _ _ h => h) (hw : Region.wanted oi (yielded ops a.tmps) = true:=by rfl) : wpAny P md ops Q (fuel + 1) listed a w :=
 wpAny_take hi hs hf hr hQ (.inl ⟨hw,hy⟩) h
theorem wp1 {α : Type} (l : List α) (i : Nat) (a : α) : l.toArray.setIfInBounds i a = (l.set i a).toArray:=List.setIfInBounds_toArray ..
theorem wp4 {α : Type} {l : List α} {i : Nat} (h : i < l.toArray.size) : l.toArray[i] = l[i]'(by simpa using h):=rfl
theorem wp5 {α : Type} {x : α} {l : List α} {i : Nat} (h : i + 1 < (x :: l).length) : (x :: l)[i + 1] = l[i]'(by simpa using h):=rfl
theorem wp6 {α : Type} {x : α} {l : List α} (h : 0 < (x :: l).length) : (x :: l)[0] = x:=rfl
theorem wp2 {α : Type} {x : α} {l : List α} {a : α} : (x :: l).set 0 a = a :: l:=rfl
theorem wp3 {α : Type} {x : α} {l : List α} {i : Nat} {a : α} : (x :: l).set (i + 1) a = x :: l.set i a:=rfl
variable {w0 : World} {ps : List Pers} {a' : Act}
theorem wt3 (hi : ops[i]? = some oi) (hS : Ok w0 ps w)
 (h : wpAnyH P md ops Q (fun W => Ok w0 ps W) fuel (listed.setIfInBounds i true) a' w)
 (hy : ∀ W,Ok w0 ps W → (execOp a.eval oi).run P W = .ok (.value v) W:=by (intro w hSw; have F:=Ok.sees hSw; clear hSw; simp only [sees,kBlk,kVar,kCells,cellsFrom,cellsAt,Nat.add_zero,Nat.reduceAdd,and_true] at F; go_simp; try with_reducible rfl))
 (ha : a.put oi.dst v = a':=by ((try simp only [Act.put,List.setIfInBounds_toArray,List.set_cons_zero,List.set_cons_succ,List.getElem_toArray,List.getElem_cons_succ,List.getElem_cons_zero]); exact rfl))
 (hs : Region.noSelect ops = true:=by kernel_rfl) (hf : Region.free md ops listed i = true:=by kernel_rfl) (hr : (Region.ready md ops listed).contains i = true:=by kernel_rfl)
 (hQ : ∀ c a w,Q (.panic c) (a.put oi.dst v) w → Q (.panic c) a w:=by exact fun _ _ _ h => h) (hw : Region.wanted oi (yielded ops a.tmps) = true:=by rfl) : wpAnyH P md ops Q (fun W => Ok w0 ps W) (fuel + 1) listed a w :=
 wpAnyH_take hi hs hf hr hQ (.inl ⟨hw,hy⟩) hS (ha ▸ h)
theorem wt4 (hi : ops[i]? = some oi) (hS : Ok w0 ps w)
 (h : wpAnyH P md ops Q (fun W => Ok w0 ps W) fuel (listed.setIfInBounds i true) a' w)
 (hy : ∀ W,Ok w0 ps W → (execOp a.eval oi).run P W = .ok (.value v) W:=by (intro w hSw; have F:=Ok.sees hSw; clear hSw; simp only [sees,kBlk,kVar,kCells,cellsFrom,cellsAt,Nat.add_zero,Nat.reduceAdd,and_true] at F; go_simp; (try rw [if_neg (by omega)]); try with_reducible rfl))
 (ha : a.put oi.dst v = a':=by ((try simp only [Act.put,List.setIfInBounds_toArray,List.set_cons_zero,List.set_cons_succ,List.getElem_toArray,List.getElem_cons_succ,List.getElem_cons_zero]); exact rfl))
 (hs : Region.noSelect ops = true:=by kernel_rfl) (hf : Region.free md ops listed i = true:=by kernel_rfl) (hr : (Region.ready md ops listed).contains i = true:=by kernel_rfl)
 (hQ : ∀ c a w,Q (.panic c) (a.put oi.dst v) w → Q (.panic c) a w:=by exact fun _ _ _ h => h) (hw : Region.wanted oi (yielded ops a.tmps) = true:=by rfl) : wpAnyH P md ops Q (fun W => Ok w0 ps W) (fuel + 1) listed a w :=
 wpAnyH_take hi hs hf hr hQ (.inl ⟨hw,hy⟩) hS (ha ▸ h)
end
end Go.Proofs.YtmalncmdfmoccaaGreatDoor
namespace Go.Proofs.YtmalncmdfmoccaaGreatDoor
set_option maxRecDepth 100000
open Go.ChangeShapes Go.WideShapes Go.ChangeAt Go.RowKit Go.Joins
theorem wq_u8 {n : Int} (h : (Lit.int .u8 n).wf = true) : 0 ≤ n ∧ n < 256:=by
 simp [Lit.wf] at h
 have h0 : IntKind.u8.min = 0:=rfl
 have h1 : IntKind.u8.max = 255:=rfl
 omega
theorem wq_u64 {n : Int} (h : (Lit.int .u64 n).wf = true) : 0 ≤ n ∧ n < 18446744073709551616:=by
 simp [Lit.wf] at h
 have h0 : IntKind.u64.min = 0:=rfl
 have h1 : IntKind.u64.max = 18446744073709551615:=rfl
 omega
theorem wq_i64 {n : Int} (h : (Lit.int .i64 n).wf = true) : i64B n:=by
 simp [Lit.wf] at h
 have h0 : IntKind.i64.min = -9223372036854775808:=rfl
 have h1 : IntKind.i64.max = 9223372036854775807:=rfl
 unfold i64B
 omega
theorem gl_u8 : Flat Tryz.prog 5 [.int .u8]:=.int (by kernel_rfl)
theorem gl_i64 : Flat Tryz.prog 2 [.int .i64]:=.int (by kernel_rfl)
theorem gl_int : Flat Tryz.prog 3 [.int .i64]:=.int (by kernel_rfl)
theorem gl_u64 : Flat Tryz.prog 50 [.int .u64]:=.int (by kernel_rfl)
theorem gl_str : Flat Tryz.prog 9 [.str]:=.str (by kernel_rfl)
theorem gl_bool : Flat Tryz.prog 4 [.bool]:=.bool (by kernel_rfl)
def valLf : List Lf:=[.int .u8,.int .i64,.str]
def evLf : List Lf:=[.int .i64,.int .i64,.int .u8,.int .i64,.int .i64,.int .i64,.int .i64,.bool,.int .u64]
def rlLf : List Lf:=[.int .i64,.int .i64,.int .i64,.int .i64,.int .u8,.int .i64,.int .i64,.int .i64,.int .i64,.int .i64,.int .u64]
theorem gl_val : Flat Tryz.prog 59 valLf :=
 flat_struct [[.int .u8],[.int .i64],[.str]] Tryz.underlying59 ⟨⟨gl_u8,by kernel_rfl⟩,⟨gl_i64,by kernel_rfl⟩,⟨gl_str,by kernel_rfl⟩,trivial⟩ ⟨rfl,rfl,rfl,trivial⟩ (by kernel_rfl)
theorem gl_rect : Flat Tryz.prog 49 [.int .i64,.int .i64,.int .i64,.int .i64] :=
 flat_struct [[.int .i64],[.int .i64],[.int .i64],[.int .i64]] Tryz.underlying49 ⟨⟨gl_int,by kernel_rfl⟩,⟨gl_int,by kernel_rfl⟩,⟨gl_int,by kernel_rfl⟩,⟨gl_int,by kernel_rfl⟩,trivial⟩ ⟨rfl,rfl,rfl,rfl,trivial⟩ (by kernel_rfl)
theorem gl_ref : Flat Tryz.prog 45 [.int .i64,.int .i64] :=
 flat_struct [[.int .i64],[.int .i64]] Tryz.underlying45 ⟨⟨gl_int,by kernel_rfl⟩,⟨gl_int,by kernel_rfl⟩,trivial⟩ ⟨rfl,rfl,trivial⟩ (by kernel_rfl)
theorem gl_call : Flat Tryz.prog 74 [.int .i64,.int .i64,.int .i64] :=
 flat_struct [[.int .i64,.int .i64],[.int .i64]] Tryz.underlying74 ⟨⟨gl_ref,by kernel_rfl⟩,⟨gl_int,by kernel_rfl⟩,trivial⟩ ⟨rfl,rfl,trivial⟩ (by kernel_rfl)
theorem gl_ev : Flat Tryz.prog 71 evLf :=
 flat_struct [[.int .i64],[.int .i64],[.int .u8],[.int .i64,.int .i64,.int .i64,.int .i64],[.bool],[.int .u64]] Tryz.underlying71 ⟨⟨gl_int,by kernel_rfl⟩,⟨gl_int,by kernel_rfl⟩,⟨gl_u8,by kernel_rfl⟩,⟨gl_rect,by kernel_rfl⟩,⟨gl_bool,by kernel_rfl⟩,⟨gl_u64,by kernel_rfl⟩,trivial⟩ ⟨rfl,rfl,rfl,rfl,rfl,rfl,trivial⟩ (by kernel_rfl)
theorem gl_rl : Flat Tryz.prog 76 rlLf :=
 flat_struct [[.int .i64],[.int .i64,.int .i64,.int .i64],[.int .u8],[.int .i64,.int .i64,.int .i64,.int .i64],[.int .i64],[.int .u64]] Tryz.underlying76 ⟨⟨gl_int,by kernel_rfl⟩,⟨gl_call,by kernel_rfl⟩,⟨gl_u8,by kernel_rfl⟩,⟨gl_rect,by kernel_rfl⟩,⟨gl_int,by kernel_rfl⟩,⟨gl_u64,by kernel_rfl⟩,trivial⟩ ⟨rfl,rfl,rfl,rfl,rfl,rfl,trivial⟩ (by kernel_rfl)
theorem l_three {α : Type} {l : List α} (h : l.length = 3) : ∃ v0 v1 v2,l = [v0,v1,v2]:=by
 match l,h with
 | [v0,v1,v2],_ => exact ⟨v0,v1,v2,rfl⟩
theorem l_seven {α : Type} {l : List α} (h : l.length = 7) : ∃ v0 v1 v2 v3 v4 v5 v6,l = [v0,v1,v2,v3,v4,v5,v6]:=by
 match l,h with
 | [v0,v1,v2,v3,v4,v5,v6],_ => exact ⟨v0,v1,v2,v3,v4,v5,v6,rfl⟩
theorem l_nine {α : Type} {l : List α} (h : l.length = 9) : ∃ v0 v1 v2 v3 v4 v5 v6 v7 v8,l = [v0,v1,v2,v3,v4,v5,v6,v7,v8]:=by
 match l,h with
 | [v0,v1,v2,v3,v4,v5,v6,v7,v8],_ => exact ⟨v0,v1,v2,v3,v4,v5,v6,v7,v8,rfl⟩
theorem l_eleven {α : Type} {l : List α} (h : l.length = 11) : ∃ v0 v1 v2 v3 v4 v5 v6 v7 v8 v9 v10,l = [v0,v1,v2,v3,v4,v5,v6,v7,v8,v9,v10]:=by
 match l,h with
 | [v0,v1,v2,v3,v4,v5,v6,v7,v8,v9,v10],_ => exact ⟨v0,v1,v2,v3,v4,v5,v6,v7,v8,v9,v10,rfl⟩
theorem row_vl (r : List Value) (h : OkL valLf r) : ∃ a : VlL,vlRow a = r ∧ (-9223372036854775808 ≤ a.2.1 ∧ a.2.1 ≤ 9223372036854775807):=by
 obtain ⟨v0,v1,v2,rfl⟩:=l_three (show r.length = 3 from h.len)
 obtain ⟨⟨n0,rfl,w0⟩,⟨n1,rfl,w1⟩,⟨s,rfl,-⟩,-⟩:=h
 have h0:=wq_u8 w0
 refine ⟨(n0.toNat,n1,s.data.toList),?_,wq_i64 w1⟩
 unfold vlRow
 simp only [Int.toNat_of_nonneg h0.1]
theorem row_ev (r : List Value) (h : OkL evLf r) : ∃ a : EvD,evRow a = r ∧ a.Ok:=by
 obtain ⟨v0,v1,v2,v3,v4,v5,v6,v7,v8,rfl⟩:=l_nine (show r.length = 9 from h.len)
 obtain ⟨⟨n0,rfl,w0⟩,⟨n1,rfl,w1⟩,⟨n2,rfl,w2⟩,⟨n3,rfl,w3⟩,⟨n4,rfl,w4⟩,⟨n5,rfl,w5⟩,⟨n6,rfl,w6⟩,⟨b7,rfl⟩,⟨n8,rfl,w8⟩,-⟩:=h
 have h2:=wq_u8 w2
 have h8:=wq_u64 w8
 refine ⟨⟨n0,n1,n2.toNat,⟨n3,n4,n5,n6⟩,b7,n8.toNat⟩,?_,⟨wq_i64 w0,wq_i64 w1,by show n2.toNat < 256; omega,wq_i64 w3,wq_i64 w4,wq_i64 w5,wq_i64 w6,by show n8.toNat < 18446744073709551616; omega⟩⟩
 unfold evRow
 simp only [Int.toNat_of_nonneg h2.1,Int.toNat_of_nonneg h8.1]
theorem row_rl (r : List Value) (h : OkL rlLf r) : ∃ a : RlD,rlRow a = r ∧ a.Ok:=by
 obtain ⟨v0,v1,v2,v3,v4,v5,v6,v7,v8,v9,v10,rfl⟩:=l_eleven (show r.length = 11 from h.len)
 obtain ⟨⟨n0,rfl,w0⟩,⟨n1,rfl,w1⟩,⟨n2,rfl,w2⟩,⟨n3,rfl,w3⟩,⟨n4,rfl,w4⟩,⟨n5,rfl,w5⟩,⟨n6,rfl,w6⟩,⟨n7,rfl,w7⟩,⟨n8,rfl,w8⟩,⟨n9,rfl,w9⟩,⟨n10,rfl,w10⟩,-⟩:=h
 have h4:=wq_u8 w4
 have h10:=wq_u64 w10
 refine ⟨⟨n0,n1,n2,n3,n4.toNat,⟨n5,n6,n7,n8⟩,n9,n10.toNat⟩,?_,⟨wq_i64 w0,wq_i64 w1,wq_i64 w2,wq_i64 w3,by show n4.toNat < 256; omega,wq_i64 w5,wq_i64 w6,wq_i64 w7,wq_i64 w8,wq_i64 w9,by show n10.toNat < 18446744073709551616; omega⟩⟩
 unfold rlRow
 simp only [Int.toNat_of_nonneg h4.1,Int.toNat_of_nonneg h10.1]
theorem rows_map {α : Type} {f : α → List Value} {ok : α → Prop} {ls : List Lf} (hr : ∀ r,OkL ls r → ∃ a,f a = r ∧ ok a) : ∀ l : List (List Value),(∀ r ∈ l,OkL ls r) → ∃ t : List α,t.map f = l ∧ ∀ a ∈ t,ok a:=by
 intro l
 induction l with
 | nil => intro _; exact ⟨[],rfl,fun a ha => (by cases ha)⟩
 | cons r l ih =>
  intro hl
  obtain ⟨a,ha,hin⟩:=hr r (hl r (by simp))
  obtain ⟨t,ht,hti⟩:=ih fun r hr => hl r (by simp [hr])
  refine ⟨a :: t,by rw [List.map_cons,ha,ht],fun b hb => ?_⟩
  rcases List.mem_cons.1 hb with rfl | hb
  ·exact hin
  ·exact hti b hb
theorem slice_given {H : Type} {enc : TypeId × Value → H} {w : World} {base : Nat} {spare : Nat → Bool} {held : Bool} {fuel : Nat} {t e : TypeId} {ls : List Lf} {α : Type} {f : α → List Value} {ok : α → Prop} (ht : Tryz.prog.underlying t = some (.slice e)) (he : Flat Tryz.prog e ls) (hc : Tryz.prog.cellsOf e = ls.length) (hpos : 0 < ls.length) (hr : ∀ r,OkL ls r → ∃ a,f a = r ∧ ok a) {v : Value} {x : DataW H × List MemPlace}
  (h : DataW.trod enc Tryz.prog w base spare held fuel t [v] = some x) : ∃ (A : Option Addr) (l : List α) (c : Nat),v = .slice A l.length c ∧ RowsAt w A ls.length (l.map f) ∧ (∀ a ∈ l,ok a) ∧ l.length ≤ maxLen:=by
 have hv : ∃ A n c,v = .slice A n c:=by
  rcases Go.Deep.open_slice ht h with ⟨hcs,-⟩ | ⟨a,len,cap,m,k,D,Pl,hcs,-⟩
  ·simp at hcs; exact ⟨_,_,_,hcs⟩
  ·simp at hcs; exact ⟨_,_,_,hcs⟩
 obtain ⟨A,n,c,rfl⟩:=hv
 obtain ⟨rows,hl,hrw,hok,h1,h2⟩:=rows_given (A:=A) (n:=n) (c:=c) ht he hc hpos h
 obtain ⟨l,hm,hlo⟩:=rows_map hr rows hok
 have hn : l.length = n:=by rw [← hl,← hm,List.length_map]
 exact ⟨A,l,c,by rw [hn],by rw [hm]; exact hrw,hlo,by rw [hn]; exact Nat.le_trans h1 h2⟩
theorem reply_given {H : Type} {enc : TypeId × Value → H} {w : World} {base : Nat} {spare : Nat → Bool} {held : Bool} {r : Reach} {b0 : Nat} {v : Value} {d : DataW H} {p : List MemPlace}
  (hv : Value.okWide Tryz.prog w r b0 26 v) (h : DataW.Trod enc Tryz.prog w base spare held 26 v d p) :
  ∃ (c : Nat) (at_ : Int) (g : List VlL) (TX : ByteArray) (e : List EvD) (rl : List RlD) (ct : Int) (ga ea ra : Option Addr) (gc ec rc : Nat),v = .agg #[.int .u8 (c : Nat),.int .i64 at_,.slice ga g.length gc,.string TX,.slice ea e.length ec,.slice ra rl.length rc,.int .i64 ct] ∧ RpIn ⟨c,at_,g,TX.data.toList,e,rl,ct⟩ ∧ RowsAt w ga 3 (g.map vlRow) ∧ RowsAt w ea 9 (e.map evRow) ∧ RowsAt w ra 11 (rl.map rlRow):=by
 obtain ⟨cs,rfl,hsz⟩:=okWide_struct Tryz.underlying26 hv
 have hc7 : Tryz.prog.cellsOf 26 = 7:=by kernel_rfl
 obtain ⟨l⟩:=cs
 obtain ⟨v0,v1,v2,v3,v4,v5,v6,rfl⟩:=l_seven (l:=l) (hsz.trans hc7)
 obtain ⟨fuel,ht⟩:=h
 obtain ⟨ys,k,-,-,-,hyl,hf⟩:=DataW.trod_struct Tryz.underlying26 ht
 have hyl : ys.length = 7:=hyl
 have hy : ∀ j,j < 7 → ∃ y,ys[j]? = some y:=fun j hj => ⟨_,List.getElem?_eq_getElem (by omega)⟩
 obtain ⟨y0,e0⟩:=hy 0 (by decide)
 have f0 : DataW.trod enc Tryz.prog w base spare held k 5 (([v0,v1,v2,v3,v4,v5,v6].drop 0).take (Tryz.prog.cellsOf 5)) = ys[0]?:=hf 0 _ rfl
 rw [show Tryz.prog.cellsOf 5 = 1 by kernel_rfl,e0] at f0
 obtain ⟨y1,e1⟩:=hy 1 (by decide)
 have f1 : DataW.trod enc Tryz.prog w base spare held k 3 (([v0,v1,v2,v3,v4,v5,v6].drop 1).take (Tryz.prog.cellsOf 3)) = ys[1]?:=hf 1 _ rfl
 rw [show Tryz.prog.cellsOf 3 = 1 by kernel_rfl,e1] at f1
 obtain ⟨y2,e2⟩:=hy 2 (by decide)
 have f2 : DataW.trod enc Tryz.prog w base spare held k 22 (([v0,v1,v2,v3,v4,v5,v6].drop 2).take (Tryz.prog.cellsOf 22)) = ys[2]?:=hf 2 _ rfl
 rw [show Tryz.prog.cellsOf 22 = 1 by kernel_rfl,e2] at f2
 obtain ⟨y3,e3⟩:=hy 3 (by decide)
 have f3 : DataW.trod enc Tryz.prog w base spare held k 9 (([v0,v1,v2,v3,v4,v5,v6].drop 3).take (Tryz.prog.cellsOf 9)) = ys[3]?:=hf 3 _ rfl
 rw [show Tryz.prog.cellsOf 9 = 1 by kernel_rfl,e3] at f3
 obtain ⟨y4,e4⟩:=hy 4 (by decide)
 have f4 : DataW.trod enc Tryz.prog w base spare held k 23 (([v0,v1,v2,v3,v4,v5,v6].drop 4).take (Tryz.prog.cellsOf 23)) = ys[4]?:=hf 4 _ rfl
 rw [show Tryz.prog.cellsOf 23 = 1 by kernel_rfl,e4] at f4
 obtain ⟨y5,e5⟩:=hy 5 (by decide)
 have f5 : DataW.trod enc Tryz.prog w base spare held k 24 (([v0,v1,v2,v3,v4,v5,v6].drop 5).take (Tryz.prog.cellsOf 24)) = ys[5]?:=hf 5 _ rfl
 rw [show Tryz.prog.cellsOf 24 = 1 by kernel_rfl,e5] at f5
 obtain ⟨y6,e6⟩:=hy 6 (by decide)
 have f6 : DataW.trod enc Tryz.prog w base spare held k 3 (([v0,v1,v2,v3,v4,v5,v6].drop 6).take (Tryz.prog.cellsOf 3)) = ys[6]?:=hf 6 _ rfl
 rw [show Tryz.prog.cellsOf 3 = 1 by kernel_rfl,e6] at f6
 obtain ⟨n0,g0,-,w0⟩:=DataW.trod_int Tryz.underlying5 f0
 obtain ⟨n1,g1,-,w1⟩:=DataW.trod_int Tryz.underlying3 f1
 obtain ⟨s3,g3,-,w3⟩:=DataW.trod_string Tryz.underlying9 f3
 obtain ⟨n6,g6,-,w6⟩:=DataW.trod_int Tryz.underlying3 f6
 obtain ⟨ga,g,gc,g2,hg1,hg2,hg3⟩:=slice_given (t:=22) (e:=59) (by kernel_rfl) gl_val (by kernel_rfl) (by decide) row_vl (v:=v2) f2
 obtain ⟨ea,e,ec,g4,he1,he2,he3⟩:=slice_given (t:=23) (e:=71) (by kernel_rfl) gl_ev (by kernel_rfl) (by decide) row_ev (v:=v4) f4
 obtain ⟨ra,rl,rc,g5,hr1,hr2,hr3⟩:=slice_given (t:=24) (e:=76) (by kernel_rfl) gl_rl (by kernel_rfl) (by decide) row_rl (v:=v5) f5
 simp at g0 g1 g3 g6
 subst g0 g1 g2 g3 g4 g5 g6
 have b0:=wq_u8 w0
 have hml : maxLen ≤ 9223372036854775807:=by decide
 refine ⟨n0.toNat,n1,g,s3,e,rl,n6,ga,ea,ra,gc,ec,rc,?_,⟨?_,wq_i64 w1,wq_i64 w6,hg2,he2,hr2,Nat.le_trans hg3 hml⟩,hg1,he1,hr1⟩
 ·rw [Int.toNat_of_nonneg b0.1]
 ·show n0.toNat < 256
  omega
theorem lenv_of {W : World} {l : List (String × DataW Unit)} (h : laidMetH Tryz.prog l W) (hS : W.ShapedOpen Tryz.prog)
  (hp : l.filter (fun x => x.1 == "internal/strconv.uint64pow10") = [("internal/strconv.uint64pow10", Rows.laid_internal_strconv_uint64pow10)])
  (hl : l.filter (fun x => x.1 == "math/bits.deBruijn64tab") = [("math/bits.deBruijn64tab", Rows.laid_math_bits_deBruijn64tab)])
  (hs : l.filter (fun x => x.1 == "strconv.ErrSyntax") = [("strconv.ErrSyntax", Rows.laid_strconv_ErrSyntax)])
  (hr : l.filter (fun x => x.1 == "strconv.ErrRange") = [("strconv.ErrRange", Rows.laid_strconv_ErrRange)])
  (hw : l.filter (fun x => x.1 == "louvre/val.words") = [("louvre/val.words", Rows.laid_louvre_val_words)]) : LEnv W := ⟨⟨pow_of_laid h hp, env_of h hS hl hs hr⟩, words_of h hw hS⟩
theorem LinesTells_walk (xc : Nat) (xat : Int) (xg : List VlL) (xTX : ByteArray) (xe : List EvD) (xr : List RlD) (xct : Int) (xga xea xra : Option Addr) (xgc xec xrc : Nat) (yc : Nat) (yat : Int) (yg : List VlL) (yTX : ByteArray) (ye : List EvD) (yr : List RlD) (yct : Int) (yga yea yra : Option Addr) (ygc yec yrc : Nat) (w : World) (xhi : RpIn ⟨xc,xat,xg,xTX.data.toList,xe,xr,xct⟩) (xh1 : RowsAt w xga 3 (xg.map vlRow)) (xh2 : RowsAt w xea 9 (xe.map evRow)) (xh3 : RowsAt w xra 11 (xr.map rlRow)) (yhi : RpIn ⟨yc,yat,yg,yTX.data.toList,ye,yr,yct⟩) (yh1 : RowsAt w yga 3 (yg.map vlRow)) (yh2 : RowsAt w yea 9 (ye.map evRow)) (yh3 : RowsAt w yra 11 (yr.map rlRow)) (hL : laidMetH Tryz.prog Rows.linesTellsRow.laid w) (hS : w.ShapedOpen Tryz.prog) :
  Calls Tryz.prog 4 #[.agg #[.int .u8 (xc : Nat),.int .i64 xat,.slice xga xg.length xgc,.string xTX,.slice xea xe.length xec,.slice xra xr.length xrc,.int .i64 xct],.agg #[.int .u8 (yc : Nat),.int .i64 yat,.slice yga yg.length ygc,.string yTX,.slice yea ye.length yec,.slice yra yr.length yrc,.int .i64 yct]] w fun e w' => e = .returned (.bool true) ∧ Below w.heap.size w w' :=
 law_LinesTells xc xat xg xTX xe xr xct xga xea xra xgc xec xrc yc yat yg yTX ye yr yct yga yea yra ygc yec yrc w xhi xh1 xh2 xh3 yhi yh1 yh2 yh3 (lenv_of hL hS (by kernel_rfl) (by kernel_rfl) (by kernel_rfl) (by kernel_rfl) (by kernel_rfl))
end Go.Proofs.YtmalncmdfmoccaaGreatDoor
