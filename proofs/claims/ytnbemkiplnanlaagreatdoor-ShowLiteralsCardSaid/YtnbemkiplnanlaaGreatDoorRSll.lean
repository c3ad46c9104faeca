/- The own part of ShowLiterals beyond the base that the claims of the seat share. -/
import Derived.Test.YtnbemkiplnanlaaGreatDoorRows
import Derived.WalkKit
import Derived.WalkSpells
import Derived.WalkLawsBesides
import Derived.Lib.Hide
import Derived.Deep.Slices
import Derived.Deep.Fields
import Derived.ChangeSame
import Derived.Lib.LaidTab
import Derived.Laws.OwnMore
import Derived.Deep.Draws
import Derived.Laws.Rows
import Derived.Deep.OwnRows
import Derived.Test.YtnbemkiplnanlaaGreatDoorMShelf
import Derived.Test.YtnbemkiplnanlaaGreatDoorMAddrP
import Derived.Lib.ItoaNum
import Derived.Test.YtnbemkiplnanlaaGreatDoorMIterV
import Derived.Test.YtnbemkiplnanlaaGreatDoorMLexP
import Derived.Deep.RegionHeld3
import Derived.Deep.AppendLies
import Derived.Deep.Onto
import Derived.Deep.RegionHeld
import Derived.RangeFuncNested
import Derived.RangeFuncBound
import Derived.RangeFuncCalls
import Derived.RangeFuncLeaves
import Derived.RangeFuncBox
import Derived.Shelf.Abstract
import Derived.OwnWalkIn
import Derived.TacticsInMore
import Derived.LoopNIn
import Derived.LoopIn
import Derived.Maps.AppendAt
import Derived.IntWalk
import Derived.Laws.IdiomStrings
import Derived.Lib.Strings
import Derived.Test.YtnbemkiplnanlaaGreatDoorMLexC
import Derived.Laws.RangeString
import Derived.Laws.RangeAny
import Derived.Laws.BytesArg
import Derived.Lib.BufferRead
import Derived.WalkMore
import Derived.Test.YtnbemkiplnanlaaGreatDoorMLexI
import Derived.Deep.DeepCutAuto
import Derived.Stop.LaidErr
import Derived.LaidLaws
import Derived.LaidSub
import Derived.Test.YtnbemkiplnanlaaGreatDoorMVal
import Derived.Lib.IndexBytes
import Derived.Test.YtnbemkiplnanlaaGreatDoorMLexD
import Derived.Test.YtnbemkiplnanlaaGreatDoorMLexG
import Derived.Test.YtnbemkiplnanlaaGreatDoorMLexJ
import Derived.Laws.Strings3
import Derived.Test.YtnbemkiplnanlaaGreatDoorMLexK
import Derived.Lib.SmallJoins
import Derived.Shelf.Strings.Cut
import Derived.Shelf.Strings.Search2
import Derived.Shelf.Strconv.Itoa3
import Derived.Lib.AppendIntMem
import Derived.BigRegion
import Derived.Test.YtnbemkiplnanlaaGreatDoorMAddP6
import Derived.Deep.LoopGhost
import Derived.Test.YtnbemkiplnanlaaGreatDoorMLexM
import Derived.Laws.EntriesVeiled
import Derived.Test.YtnbemkiplnanlaaGreatDoorMLexN
import Derived.Test.YtnbemkiplnanlaaGreatDoorMParP
import Derived.Test.YtnbemkiplnanlaaGreatDoorMParA
import Derived.Test.YtnbemkiplnanlaaGreatDoorMParD2
import Derived.Test.YtnbemkiplnanlaaGreatDoorMTreA
import Derived.Shelf.Strings.Builder1
import Derived.Shelf.Strings.Builder2
import Derived.Shelf.Strings.OnBuilder
import Derived.Shelf.Small.Wraps
import Derived.Shelf.Strings.BuilderF
import Derived.Shelf.Strings.BuilderK
import Derived.Shelf.Utf8.RuneCount
import Derived.Shelf.Strings.Builder2Cap
import Derived.Shelf.Strconv.Itoa0
import Derived.Shelf.Strconv.Itoa1
import Derived.Shelf.LaysM
import Derived.Shelf.Strconv.Itoa2
import Derived.Shelf.Strings.Search1
import Derived.Shelf.Strings.Search3
import Derived.Shelf.Strings.Count
import Derived.Shelf.Strings.Shaped
import Derived.Shelf.GgClosure.StringsIndexFunc
import Derived.Ground.GgwProg
import Derived.Shelf.GgClosure.StringsIndexFuncTop
import Derived.Shelf.GgClosure.StringsRunes
import Derived.Shelf.Strings.Prefix
import Derived.Shelf.Strings.Split
import Derived.Shelf.Strings.Replace
import Derived.Shelf.Strings.SplitShaped
import Derived.Shelf.Unicode.Decode
import Derived.Shelf.Strings.RuneCount
import Derived.Shelf.Bits.Mul64
import Derived.Shelf.Strings.Repeat
import Derived.Shelf.Unicode.DecodeSlow
import Derived.Shelf.Unicode.DecodeAny
import Derived.Shelf.Strings.FuncGrows
import Derived.Shelf.Strings.BuilderCap
import Derived.Shelf.Slices.Turned
import Derived.Test.YtnbemkiplnanlaaGreatDoorProg
import Derived.Lib.Replace
import Derived.Test.YtnbemkiplnanlaaGreatDoorMLexO
import Derived.Laws.StructEq
import Derived.Test.YtnbemkiplnanlaaGreatDoorMEqV
import Derived.Test.YtnbemkiplnanlaaGreatDoorMAddrW3
import Derived.Lib.AppendStr
import Derived.Test.YtnbemkiplnanlaaGreatDoorMDecF
import Derived.OpenShut
import Derived.WideMake
import Derived.Carry
import Derived.Test.YtnbemkiplnanlaaGreatDoorMShw
import Derived.Test.YtnbemkiplnanlaaGreatDoorMSgn
import Derived.Test.YtnbemkiplnanlaaGreatDoorMParK
import Derived.Test.YtnbemkiplnanlaaGreatDoorMTreB
import Derived.Test.YtnbemkiplnanlaaGreatDoorMGiv
import Derived.Test.YtnbemkiplnanlaaGreatDoorMNdF
import Derived.Test.YtnbemkiplnanlaaGreatDoorMShP
import Derived.Test.YtnbemkiplnanlaaGreatDoorMShO
import Derived.Test.YtnbemkiplnanlaaGreatDoorMShR
import Derived.Test.YtnbemkiplnanlaaGreatDoorMShc
import Derived.Test.YtnbemkiplnanlaaGreatDoorMTwk
import Derived.Test.YtnbemkiplnanlaaGreatDoorMTwd
import Derived.Test.YtnbemkiplnanlaaGreatDoorMShn
import Derived.Test.YtnbemkiplnanlaaGreatDoorMForB
import Derived.Test.YtnbemkiplnanlaaGreatDoorMLit
import Derived.Test.YtnbemkiplnanlaaGreatDoorMTxt
import Derived.Test.YtnbemkiplnanlaaGreatDoorMTxu
import Derived.Test.YtnbemkiplnanlaaGreatDoorMTxv
import Derived.Test.YtnbemkiplnanlaaGreatDoorMOut
import Derived.Test.YtnbemkiplnanlaaGreatDoorMRds
import Derived.Test.YtnbemkiplnanlaaGreatDoorMParB
import Derived.Defers
import Derived.Recover
import Derived.Test.YtnbemkiplnanlaaGreatDoorMParE
import Derived.Test.YtnbemkiplnanlaaGreatDoorMParF
import Derived.Test.YtnbemkiplnanlaaGreatDoorMParG
import Derived.Test.YtnbemkiplnanlaaGreatDoorMParH
import Derived.Test.YtnbemkiplnanlaaGreatDoorMParI
import Derived.ChangeArms
import Derived.Test.YtnbemkiplnanlaaGreatDoorMNdG
import Derived.Test.YtnbemkiplnanlaaGreatDoorMFew
namespace Go.Proofs.YtnbemkiplnanlaaGreatDoor
section
open Go.RowKit
end
section
open Go.RowKit
end
section
open Go.RowKit
end
section
open Go.RowKit
def Look (s : ByteArray) (a k : Nat) (t : List UInt8) : Prop:=unqS (s.data.toList.drop a) = (unqS (s.data.toList.drop k)).map fun p => (t ++ p.1,p.2 + (k - a))
theorem Look.start (s : ByteArray) (a : Nat) : Look s a a []:=by
 unfold Look
 simp
theorem Look.step {s : ByteArray} {a k : Nat} {t : List UInt8} (h : Look s a k t) (ha : a ≤ k) (hk : k < s.size) (h1 : s[k]'hk ≠ 34) : Look s a (k + 1) (t ++ [s[k]'hk]):=by
 have hsl : s.data.toList.length = s.size:=by rw [Array.length_toList]; rfl
 have hd : s.data.toList.drop k = s[k]'hk :: s.data.toList.drop (k + 1):=List.drop_eq_getElem_cons (by omega)
 unfold Look at h ⊢
 rw [h,hd]
 cases hr : s.data.toList.drop (k + 1) with
 | nil => rw [unq_one,if_neg h1]; rfl
 | cons c r =>
  rw [unq_two,if_neg h1]
  cases unqS (c :: r) with
  | none => rfl
  | some y => simp; omega
theorem Look.pair {s : ByteArray} {a k : Nat} {t : List UInt8} (h : Look s a k t) (ha : a ≤ k) (hk : k + 1 < s.size) (h1 : s[k]'(by omega) = 34) (h2 : s[k + 1]'hk = 34) : Look s a (k + 2) (t ++ [34]):=by
 have hsl : s.data.toList.length = s.size:=by rw [Array.length_toList]; rfl
 have hd : s.data.toList.drop k = s[k]'(by omega) :: s[k + 1]'hk :: s.data.toList.drop (k + 2):=by
  rw [List.drop_eq_getElem_cons (by omega),List.drop_eq_getElem_cons (by omega)]
  rfl
 unfold Look at h ⊢
 rw [h,hd,unq_two,if_pos h1,if_pos h2]
 cases unqS (s.data.toList.drop (k + 2)) with
 | none => rfl
 | some y => simp; omega
theorem Look.last {s : ByteArray} {a k : Nat} {t : List UInt8} (h : Look s a k t) (ha : a ≤ k) (hk : k < s.size) (h1 : s[k]'hk = 34) (h2 : ∀ h : k + 1 < s.size,s[k + 1]'h ≠ 34) : unqS (s.data.toList.drop a) = some (t,k + 1 - a):=by
 have hsl : s.data.toList.length = s.size:=by rw [Array.length_toList]; rfl
 have hu : unqS (s.data.toList.drop k) = some ([],1):=by
  have hd : s.data.toList.drop k = s[k]'hk :: s.data.toList.drop (k + 1):=List.drop_eq_getElem_cons (by omega)
  rw [hd]
  by_cases hk1 : k + 1 < s.size
  ·have hd2 : s.data.toList.drop (k + 1) = s[k + 1]'hk1 :: s.data.toList.drop (k + 2):=List.drop_eq_getElem_cons (by omega)
   rw [hd2,unq_two,if_pos h1,if_neg (h2 hk1)]
  ·rw [List.drop_eq_nil_of_le (by omega),unq_one,if_pos h1]
 unfold Look at h
 rw [h,hu]
 simp; omega
theorem Look.out {s : ByteArray} {a : Nat} {t : List UInt8} (h : Look s a s.size t) : unqS (s.data.toList.drop a) = none:=by
 have hsl : s.data.toList.length = s.size:=by rw [Array.length_toList]; rfl
 unfold Look at h
 rw [h,List.drop_eq_nil_of_le (by omega)]
 rfl
end
end Go.Proofs.YtnbemkiplnanlaaGreatDoor
namespace Go.Proofs.YtnbemkiplnanlaaGreatDoor
set_option maxRecDepth 100000
set_option maxHeartbeats 2000000
section
open Go.RowKit
end
section
open Go.RowKit
def errT (c : Int) : List UInt8:=if 1 ≤ c ∧ c ≤ 7 then allNames[c.toNat]?.getD [] else []
theorem ref5_Fail7 (w : World) :
  Calls Tryz.prog 69 #[.int .i64 7] w fun e w' => e = .returned (.agg #[.int .u8 4,.int .i64 7,.string ⟨#[]⟩]) ∧ Below w.heap.size w w':=by
 go_enter Tryz.func69,Tryz.ntmps69
 have H0:=Lib.hid (Ok.start w)
 go_upto_region 1 with fail
 have H1:=Lib.hid (H0.out.var w.heap.size 35 [.int .u8 0,.int .i64 0,.string ⟨#[]⟩] rfl)
 clear H0
 generalize (w.alloc (.cells #[.int .u8 0,.int .i64 0,.string ⟨#[]⟩] 35)) = W2 at H1 ⊢
 have F3:=H1.out.sees
 simp only [sees,kVar,cellsAt,Nat.reduceAdd] at F3
 obtain ⟨⟨⟨z0,fz0⟩,c0_0,c0_1,c0_2,-⟩,-⟩:=F3
 go_wp2_with fail
 have hK:=H1.out.get (kVar (w.heap.size) 35 [.int .u8 0,.int .i64 0,.string ⟨#[]⟩]) (by simp)
 have hB:=H1.out.bel
 have hE:=((((show Blk W2 (w.heap.size) 35 _ from hK).set_ 0 (.int .u8 4)).set_ 1 (.int .i64 7)).set_ 2 (.string ⟨#[]⟩))
 have r0:=hE.cell 0
 have r1:=hE.cell 1
 have r2:=hE.cell 2
 simp at r0 r1 r2
 exact bodyPost_ret (v:=.agg #[.int .u8 4,.int .i64 7,.string ⟨#[]⟩]) (by simp [results,Tryz.results69,go_sem,r0,r1,r2]) rfl ⟨rfl,(((hB.setCell (by simp) _).setCell (by simp) _).setCell (by simp) _)⟩
theorem ref5_Name (c : Int) (w : World) :
  Calls Tryz.prog 94 #[.int .i64 c] w fun e w' => e = .returned (.string ⟨(errT c).toArray⟩) ∧ w' = w:=by
 rcases (show c = 1 ∨ c = 2 ∨ c = 3 ∨ c = 4 ∨ c = 5 ∨ c = 6 ∨ c = 7 ∨ ¬ (1 ≤ c ∧ c ≤ 7) by omega) with rfl | rfl | rfl | rfl | rfl | rfl | rfl | h
 iterate 7
  ·go_enter Tryz.func94,Tryz.ntmps94
   go_wp2_with fail
   go_ret
   exact ⟨rfl,rfl⟩
 ·have HE:=keep (show errT c = [] from if_neg h)
  have h1 : (c == 1) = false:=by simp; omega
  have h2 : (c == 2) = false:=by simp; omega
  have h3 : (c == 3) = false:=by simp; omega
  have h4 : (c == 4) = false:=by simp; omega
  have h5 : (c == 5) = false:=by simp; omega
  have h6 : (c == 6) = false:=by simp; omega
  have h7 : (c == 7) = false:=by simp; omega
  clear h
  go_enter Tryz.func94,Tryz.ntmps94
  go_wp2_with fail
  go_ret
  exact ⟨by rw [HE.out]; rfl,rfl⟩
theorem ref5_CheckE (c : Int) (w : World) :
  Calls Tryz.prog 68 #[.agg #[.int .u8 4,.int .i64 c,.string ⟨#[]⟩]] w fun e w' => e = .returned (.int .i64 (if 1 ≤ c ∧ c ≤ 6 then 0 else 2)) ∧ Below w.heap.size w w':=by
 have hb:=(Below.refl w.heap.size w).alloc (Nat.le_refl _) (.cells #[.int .u8 4,.int .i64 c,.string ⟨#[]⟩] 35)
 have HB:=Lib.hid hb
 clear hb
 by_cases h1 : 1 ≤ c
 ·by_cases h6 : c ≤ 6
  ·have HE:=keep (show (if 1 ≤ c ∧ c ≤ 6 then (0 : Int) else 2) = 0 from if_pos ⟨h1,h6⟩)
   rw [HE.out]
   go_enter Tryz.func68,Tryz.ntmps68
   go_wp2_with fail
   go_ret
   exact ⟨rfl,HB.out⟩
  ·have HE:=keep (show (if 1 ≤ c ∧ c ≤ 6 then (0 : Int) else 2) = 2 from if_neg (fun h => h6 h.2))
   rw [HE.out]
   go_enter Tryz.func68,Tryz.ntmps68
   go_wp2_with fail
   go_ret
   exact ⟨rfl,HB.out⟩
 ·have HE:=keep (show (if 1 ≤ c ∧ c ≤ 6 then (0 : Int) else 2) = 2 from if_neg (fun h => h1 h.1))
  rw [HE.out]
  go_enter Tryz.func68,Tryz.ntmps68
  go_wp2_with fail
  go_ret
  exact ⟨rfl,HB.out⟩
theorem ref5_Show (c : Int) (w : World) :
  Calls Tryz.prog 56 #[.agg #[.int .u8 4,.int .i64 c,.string ⟨#[]⟩]] w fun e w' => e = .returned (.string ⟨(errT c).toArray⟩) ∧ Below w.heap.size w w':=by
 by_cases h7 : c = 7
 ·subst h7
  have H1:=Lib.hid ((Ok.start w).alloc w.heap.size 35 [.int .u8 4,.int .i64 7,.string ⟨#[]⟩] rfl)
  go_enter Tryz.func56,Tryz.ntmps56
  go_wp2_with fail
  generalize (w.alloc (.cells #[.int .u8 4,.int .i64 7,.string ⟨#[]⟩] 35)) = W2 at H1 ⊢
  refine wp_region_held_drew (S:=fun W => Ok w [kBlk (w.heap.size) 35 [.int .u8 4,.int .i64 7,.string ⟨#[]⟩]] W) (by kernel_rfl) H1.out.drew (fun hHeld => ?_)
  refine wt3 (i:=0) rfl (by assumption) ?_
  refine wal (i:=1) rfl (fun K hK => ?_)
  go_simp
  refine (ref5_Fail7 _).mono ?_
  rintro e w4 ⟨rfl,hb5⟩
  go_wp2_with fail
  refine hK.out _ _ (hHeld.below hb5) (fun hHeld => ?_)
  clear hK K
  try simp only [Act.put,wp1,wp2,wp3,wp4,wp5,wp6]
  refine wt3 (i:=2) rfl (by assumption) ?_
  refine wpAnyH_done (by kernel_rfl) ?_ _
  clear H1
  have H6:=Lib.hid hHeld
  clear hHeld
  have F7:=H6.out.sees
  simp only [sees,kBlk,cellsAt,Nat.reduceAdd] at F7
  obtain ⟨⟨z0,c0_0,c0_1,c0_2,-⟩,-⟩:=F7
  go_wp2_with fail
  refine (ref5_Name 7 _).mono ?_
  rintro e wz9 ⟨rfl,hw9⟩
  obtain rfl : w4 = wz9:=hw9.symm
  go_wp2_with fail
  go_ret
  exact ⟨rfl,H6.out.bel⟩
 ·have h7b : (c == 7) = false:=by simpa using h7
  have H7:=keep h7
  clear h7
  by_cases h16 : 1 ≤ c ∧ c ≤ 6
  ·have HC:=keep (show (if 1 ≤ c ∧ c ≤ 6 then (0 : Int) else 2) = 0 from if_pos h16)
   clear h16
   have H1:=Lib.hid ((Ok.start w).alloc w.heap.size 35 [.int .u8 4,.int .i64 c,.string ⟨#[]⟩] rfl)
   go_enter Tryz.func56,Tryz.ntmps56
   go_wp2_with fail
   generalize (w.alloc (.cells #[.int .u8 4,.int .i64 c,.string ⟨#[]⟩] 35)) = W2 at H1 ⊢
   refine wp_region_held_drew (S:=fun W => Ok w [kBlk (w.heap.size) 35 [.int .u8 4,.int .i64 c,.string ⟨#[]⟩]] W) (by kernel_rfl) H1.out.drew (fun hHeld => ?_)
   refine wt3 (i:=0) rfl (by assumption) ?_
   refine wal (i:=1) rfl (fun K hK => ?_)
   go_simp
   refine (ref5_Fail7 _).mono ?_
   rintro e w4 ⟨rfl,hb5⟩
   go_wp2_with fail
   refine hK.out _ _ (hHeld.below hb5) (fun hHeld => ?_)
   clear hK K
   try simp only [Act.put,wp1,wp2,wp3,wp4,wp5,wp6]
   refine wt3 (i:=2) rfl (by assumption) ?_
   refine wpAnyH_done (by kernel_rfl) ?_ _
   clear H1
   have H6:=Lib.hid hHeld
   clear hHeld
   have F7:=H6.out.sees
   simp only [sees,kBlk,cellsAt,Nat.reduceAdd] at F7
   obtain ⟨⟨z0,c0_0,c0_1,c0_2,-⟩,-⟩:=F7
   go_wp2_with fail
   refine (ref5_CheckE c _).mono ?_
   rintro e w8 ⟨rfl,hb9⟩
   rw [HC.out]
   clear z0 c0_0 c0_1 c0_2
   have H10:=Lib.hid (H6.out.below hb9)
   clear hb9 H6
   have F11:=H10.out.sees
   simp only [sees,kBlk,cellsAt,Nat.reduceAdd] at F11
   obtain ⟨⟨z0,c0_0,c0_1,c0_2,-⟩,-⟩:=F11
   go_wp2_with fail
   refine (ref5_Name c _).mono ?_
   rintro e wz9 ⟨rfl,hw9⟩
   obtain rfl : w8 = wz9:=hw9.symm
   go_wp2_with fail
   go_ret
   exact ⟨rfl,H10.out.bel⟩
  ·have HC:=keep (show (if 1 ≤ c ∧ c ≤ 6 then (0 : Int) else 2) = 2 from if_neg h16)
   have HE:=keep (show errT c = [] from if_neg (by have:=H7.out; omega))
   clear h16
   have H1:=Lib.hid ((Ok.start w).alloc w.heap.size 35 [.int .u8 4,.int .i64 c,.string ⟨#[]⟩] rfl)
   go_enter Tryz.func56,Tryz.ntmps56
   go_wp2_with fail
   generalize (w.alloc (.cells #[.int .u8 4,.int .i64 c,.string ⟨#[]⟩] 35)) = W2 at H1 ⊢
   refine wp_region_held_drew (S:=fun W => Ok w [kBlk (w.heap.size) 35 [.int .u8 4,.int .i64 c,.string ⟨#[]⟩]] W) (by kernel_rfl) H1.out.drew (fun hHeld => ?_)
   refine wt3 (i:=0) rfl (by assumption) ?_
   refine wal (i:=1) rfl (fun K hK => ?_)
   go_simp
   refine (ref5_Fail7 _).mono ?_
   rintro e w4 ⟨rfl,hb5⟩
   go_wp2_with fail
   refine hK.out _ _ (hHeld.below hb5) (fun hHeld => ?_)
   clear hK K
   try simp only [Act.put,wp1,wp2,wp3,wp4,wp5,wp6]
   refine wt3 (i:=2) rfl (by assumption) ?_
   refine wpAnyH_done (by kernel_rfl) ?_ _
   clear H1
   have H6:=Lib.hid hHeld
   clear hHeld
   have F7:=H6.out.sees
   simp only [sees,kBlk,cellsAt,Nat.reduceAdd] at F7
   obtain ⟨⟨z0,c0_0,c0_1,c0_2,-⟩,-⟩:=F7
   go_wp2_with fail
   refine (ref5_CheckE c _).mono ?_
   rintro e w8 ⟨rfl,hb9⟩
   rw [HC.out]
   clear z0 c0_0 c0_1 c0_2
   have H10:=Lib.hid (H6.out.below hb9)
   clear hb9 H6
   have F11:=H10.out.sees
   simp only [sees,kBlk,cellsAt,Nat.reduceAdd] at F11
   obtain ⟨⟨z0,c0_0,c0_1,c0_2,-⟩,-⟩:=F11
   go_wp2_with fail
   go_ret
   exact ⟨by rw [HE.out]; rfl,H10.out.bel⟩
end
section
open Go.RowKit
end
section
open Go.RowKit
end
end Go.Proofs.YtnbemkiplnanlaaGreatDoor
namespace Go.Proofs.YtnbemkiplnanlaaGreatDoor
set_option maxRecDepth 100000
set_option maxHeartbeats 4000000
open Go.RowKit
open Go.Lib (decDigits)
theorem ref1_Size (a : Int) (w : World) (h1 : -9223372036854775808 ≤ a) (h2 : a ≤ 9223372036854775807) :
  Calls Tryz.prog 91 #[.int .i64 a] w fun e w' => e = .returned (.int .u64 (a.natAbs : Nat)) ∧ w' = w:=by
 by_cases ha : a < 0
 ·have e1 : IntKind.i64.wrap (a + 1) = a + 1:=Go.IntWalk.i64_in _ (by omega)
  have e2 : IntKind.i64.wrap (-(a + 1)) = -(a + 1):=Go.IntWalk.i64_in _ (by omega)
  have e3 : IntKind.u64.wrap (-(a + 1)) = -(a + 1):=Go.IntWalk.u64_in _ (by omega)
  have e4 : IntKind.u64.wrap (-(a + 1) + 1) = (a.natAbs : Int):=by rw [Go.IntWalk.u64_in _ (by omega)]; omega
  go_enter Tryz.func91,Tryz.ntmps91
  go_wp2_with fail
  go_ret
  exact ⟨rfl,rfl⟩
 ·have e3 : IntKind.u64.wrap a = (a.natAbs : Int):=by rw [Go.IntWalk.u64_in _ (by omega)]; omega
  go_enter Tryz.func91,Tryz.ntmps91
  go_wp2_with fail
  go_ret
  exact ⟨rfl,rfl⟩
theorem ref1_Digits (n : Nat) (w : World) (hn : n < 18446744073709551616) :
  Calls Tryz.prog 92 #[.int .u64 (n : Int)] w fun e w' => e = .returned (.string ⟨(decDigits n).toArray⟩) ∧ Below w.heap.size w w':=by
 have hcv:=fun (W : World) (x : Int) => run_byte1 (P:=Tryz.prog) 43 9 5 Tryz.underlying43 Tryz.underlying5 Tryz.underlying9 W x 5
 have HL:=keep (digits_le n hn)
 go_enter Tryz.func92,Tryz.ntmps92
 go_wp2
 go_loopw [0,3] (fun k s wr => ∃ (m : Nat) (acc : List UInt8),m ≤ n ∧ acc.length ≤ 20 ∧ k = .int .u64 m ∧ s = .string ⟨acc.toArray⟩ ∧ decDigits n = decDigits m ++ acc ∧ Below w.heap.size w wr) (fun k _ _ => (intOf k).toNat)
 case atStart => exact ⟨n,[],Nat.le_refl _,by simp,rfl,rfl,by simp,Below.refl _ _⟩
 case round =>
  obtain ⟨m,acc,hm,hl,rfl,rfl,hacc,hb⟩:=hrel
  have HA:=Lib.hid hacc
  have HB:=Lib.hid hb
  clear hacc hb
  by_cases h0 : m ≤ 9
  ·go_wp2
   go_ret
   refine ⟨?_,HB.out.alloc HB.out.size _⟩
   have e:=HA.out
   rw [dec_small (show m < 10 from by omega),show UInt8.ofNat (48 + m) = 48 + UInt8.ofNat m from by simp] at e
   rw [e]
   exact congrArg (fun x => Ending.returned (Value.string x)) (bytes_append [_] acc)
  ·go_wp2
   go_roundw
   case measure => simp [intOf]; omega
   case rel =>
    have e : decDigits n = decDigits (m / 10) ++ ((48 + UInt8.ofNat (m % 10)) :: acc):=by
     rw [HA.out,dec_big (show ¬ m < 10 from by omega),show UInt8.ofNat (48 + m % 10) = 48 + UInt8.ofNat (m % 10) from by simp]; simp
    have hl2:=congrArg List.length e
    rw [List.length_append] at hl2
    have:=HL.out
    exact ⟨m / 10,(48 + UInt8.ofNat (m % 10)) :: acc,by omega,by omega,by congr 1,congrArg Value.string (bytes_append [_] acc),e,HB.out.alloc HB.out.size _⟩
theorem ref1_Format (a : Int) (w : World) (h1 : -9223372036854775808 ≤ a) (h2 : a ≤ 9223372036854775807) :
  Calls Tryz.prog 54 #[.int .i64 a] w fun e w' => e = .returned (.string ⟨(decS a).toArray⟩) ∧ Below w.heap.size w w':=by
 have HS:=keep (ref1_Size a w h1 h2)
 obtain ⟨N,hN⟩ : ∃ N,a.natAbs = N:=⟨_,rfl⟩
 rw [hN] at HS
 have hN2 : N ≤ 9223372036854775808:=by omega
 obtain ⟨A,hA⟩ : ∃ A,N / 10000 = A:=⟨_,rfl⟩
 obtain ⟨B,hB⟩ : ∃ B,N % 10000 = B:=⟨_,rfl⟩
 have hAi : (N : Int) / 10000 = (A : Int):=by omega
 have hBi : (N : Int) % 10000 = (B : Int):=by omega
 obtain ⟨P,hP⟩ : ∃ P : ByteArray,P = ⟨((if a < 0 then [45] else []) ++ decDigits A).toArray⟩:=⟨_,rfl⟩
 have HP:=keep (show P.data.toList = (if a < 0 then [45] else []) ++ decDigits A by rw [hP])
 have HPE:=keep hP
 have HV:=keep (show decS a = P.data.toList ++ if B = 0 then [] else 46 :: trimZ ((decDigits (10000 + B)).drop 1) by unfold decS; rw [hN,hA,hB,HP.out])
 have hA2 : A < 18446744073709551616:=by omega
 have hB2 : B < 10000:=by omega
 have HDL:=keep (digits_le A hA2)
 have hPs : P.size ≤ 21:=by
  have h9 : P.size = P.data.toList.length:=by rw [Array.length_toList]; rfl
  have:=HDL.out
  rw [h9,HP.out,List.length_append]
  split <;> simp <;> omega
 clear hN hA hB hP
 go_enter Tryz.func54,Tryz.ntmps54
 go_wp2_with fail
 refine HS.out.mono ?_
 rintro e w1 ⟨rfl,hw⟩
 obtain rfl : w = w1:=hw.symm
 clear HS
 go_wp2_with fail
 refine (ref1_Digits A _ hA2).mono ?_
 rintro e w3 ⟨rfl,hb⟩
 have HW:=Lib.hid hb
 clear hb
 obtain ⟨D,hD⟩ : ∃ D : ByteArray,D = ⟨(decDigits A).toArray⟩:=⟨_,rfl⟩
 have hDs : D.size ≤ 20:=by rw [hD]; exact HDL.out
 rw [← hD]
 have HD:=keep hD
 clear hD
 go_upto_if 13 with fail
 go_cut [4] (fun s4 wx => s4 = .string P ∧ wx = w3)
 case first =>
  by_cases ha : a < 0
  ·have HPD:=keep (show (⟨#[45]⟩ : ByteArray) ++ D = P by rw [HPE.out,if_pos ha,HD.out]; exact bytes_append [45] _)
   go_wp2_with fail
   go_meet
   exact ⟨by rw [HPD.out],rfl⟩
  ·have HPD:=keep (show D = P by rw [HPE.out,if_neg ha,HD.out]; rfl)
   go_wp2_with fail
   go_meet
   exact ⟨by rw [HPD.out],rfl⟩
 case rest =>
  obtain ⟨rfl,hwc⟩:=hcut
  obtain rfl : w3 = wc:=hwc.symm
  by_cases hB0 : B = 0
  ·have hB0b : ((B : Int) == 0) = true:=by rw [hB0]; rfl
   have HE:=keep (show decS a = P.data.toList by rw [HV.out,if_pos hB0,List.append_nil])
   clear hB0
   go_wp2_with fail
   go_ret
   exact ⟨by rw [HE.out]; rfl,HW.out⟩
  ·have hB0b : ((B : Int) == 0) = false:=by rw [beq_eq_false_iff_ne]; omega
   obtain ⟨hfd,hfx⟩:=four_digits B hB2 hB0
   obtain ⟨E,hE⟩ : ∃ E,10000 + B = E:=⟨_,rfl⟩
   have HE:=keep (show decS a = P.data.toList ++ 46 :: trimZ ((decDigits E).drop 1) by rw [HV.out,if_neg hB0,hE])
   have hEi : (10000 : Int) + (B : Int) = (E : Int):=by omega
   have hE2 : E < 18446744073709551616:=by omega
   rw [hE] at hfd hfx
   obtain ⟨X0,hX0⟩ : ∃ X0 : ByteArray,X0 = ⟨(decDigits E).toArray⟩:=⟨_,rfl⟩
   have HX0:=keep hX0
   have hx5 : X0.size = 5:=by rw [hX0]; exact hfd
   have HX5:=keep hx5
   have hx5a : (X0.size : Int) ≤ 5:=by omega
   have hx5b : (1 : Int) ≤ (X0.size : Int):=by omega
   have HX1:=keep (show (X0.extract 1 X0.size).data.toList = (decDigits E).drop 1 by
    rw [Lib.extract_data,hX0]
    show ((decDigits E).drop 1).take _ = _
    rw [List.take_of_length_le]
    rw [List.length_drop]
    exact Nat.le_refl _)
   have HFX:=keep hfx
   clear hfd hfx hE hB0 hx5 hX0
   go_wp2_with fail
   refine (ref1_Digits E _ hE2).mono ?_
   rintro e w4 ⟨rfl,hb4⟩
   have HW4:=Lib.hid (HW.out.trans (hb4.mono HW.out.size))
   clear hb4 HW
   rw [← HX0.out]
   go_wp2_with fail
   have hs4 : (X0.extract 1 X0.size).size ≤ 4:=by rw [ByteArray.size_extract]; omega
   generalize X0.extract 1 X0.size = X at HX1 hs4 ⊢
   go_loopg [6] X.size (fun gf pv wr => ∃ Y : ByteArray,gf = Y.size ∧ pv = .string Y ∧ Y.size ≤ 4 ∧ Keep (trimZ Y.data.toList = trimZ ((decDigits E).drop 1)) ∧ Keep (∃ x ∈ Y.data.toList,x ≠ 48) ∧ wr = w4)
   case atStart => exact ⟨X,rfl,rfl,hs4,keep (by rw [HX1.out]),keep (by rw [HX1.out]; exact HFX.out),rfl⟩
   case round =>
    clear HX1 hs4 HFX
    obtain ⟨Y,hgY,rfl,hY4,HT,HNZ,hwr⟩:=hrel
    obtain rfl : w4 = wr:=hwr.symm
    obtain ⟨k,hk⟩ : ∃ k,Y.size = k + 1:=by
     obtain ⟨x,hx,-⟩:=HNZ.out
     have h9 : Y.data.toList.length = Y.size:=by rw [Array.length_toList]; rfl
     have:=List.length_pos_of_mem hx
     exact ⟨Y.size - 1,by omega⟩
    have hkl : k < Y.size:=by omega
    have hki : (Y.size : Int) - 1 = (k : Int):=by omega
    have hk0 : (1 : Int) ≤ (Y.size : Int):=by omega
    have hks : (k : Int) ≤ (Y.size : Int):=by omega
    have HK:=keep hk
    have HSN:=keep (show Y.data.toList = (Y.extract 0 k).data.toList ++ [Y[k]'hkl] by
     have h9 : Y.data.toList.length = Y.size:=by rw [Array.length_toList]; rfl
     have h8:=take_snoc8 Y k hkl
     rw [List.take_of_length_le (by omega)] at h8
     rw [Lib.extract_data]
     exact h8)
    subst hgY
    clear hk
    by_cases h48 : ((Y[k]'hkl).toNat : Int) = 48
    ·have hb48 : (((Y[k]'hkl).toNat : Int) == 48) = true:=by rw [h48]; rfl
     have H48:=keep (show Y[k]'hkl = 48 by rw [← UInt8.toNat_inj]; show _ = 48; omega)
     have hsz : (Y.extract 0 k).size = k:=by rw [ByteArray.size_extract]; omega
     have HSZ:=keep hsz
     have HNX:=keep (show ∃ x ∈ (Y.extract 0 k).data.toList,x ≠ 48 by
      obtain ⟨x,hx,hx2⟩:=HNZ.out
      rw [HSN.out,H48.out] at hx
      rcases List.mem_append.1 hx with hx | hx
      ·exact ⟨x,hx,hx2⟩
      ·simp at hx; exact absurd hx hx2)
     have HTX:=keep (show trimZ (Y.extract 0 k).data.toList = trimZ ((decDigits E).drop 1) by rw [← HT.out,HSN.out,H48.out,trim_zero])
     clear h48 hsz
     go_wp2_with fail
     go_roundg k
     case rel => exact ⟨Y.extract 0 k,by rw [HSZ.out],rfl,by rw [HSZ.out]; omega,HTX,HNX,rfl⟩
     case measure => omega
    ·have hb48 : (((Y[k]'hkl).toNat : Int) == 48) = false:=by simpa using h48
     have HTL:=keep (show trimZ ((decDigits E).drop 1) = Y.data.toList by
      rw [← HT.out,HSN.out,trim_last]
      intro e
      rw [e] at h48
      exact h48 rfl)
     clear h48
     go_wp2_with fail
     go_ret
     refine ⟨?_,HW4.out⟩
     show Ending.returned (Value.string (P ++ ⟨#[46]⟩ ++ Y)) = _
     rw [HE.out,HTL.out]
     congr 2
     apply ByteArray.ext
     rw [ByteArray.data_append,ByteArray.data_append]
     apply Array.toList_inj.1
     simp
theorem ref4_Plain (s : ByteArray) (w : World) (hs : s.size ≤ 4611686018427387904) :
  Calls Tryz.prog 147 #[.string s] w fun e w' => e = .returned (.bool (s.data.toList.all plainB)) ∧ w' = w:=by
 have HSL:=keep (show s.data.toList.length = s.size by rw [Array.length_toList]; rfl)
 obtain ⟨p,hp⟩ : ∃ p,s.data.toList.all plainB = p:=⟨_,rfl⟩
 rw [hp]
 have HPP:=keep hp
 clear hp
 go_enter Tryz.func147,Tryz.ntmps147
 go_wp2_with fail
 go_loopw [3] (fun iv wr => ∃ k : Nat,k ≤ s.size ∧ iv = .int .i64 (k : Int) ∧ Keep (∀ b ∈ s.data.toList.take k,plainB b = true) ∧ wr = w) (fun iv _ => s.size - (intOf iv).toNat)
 case atStart => exact ⟨0,Nat.zero_le _,rfl,keep (by simp),rfl⟩
 case round =>
  obtain ⟨k,hk,rfl,HP,hwr⟩:=hrel
  obtain rfl : w = wr:=hwr.symm
  by_cases hlt : (k : Int) < s.size
  ·have hks : k < s.size:=by omega
   have hno : plainB (s[k]'hks) = false → p = false:=fun h => by
    rw [← HPP.out,List.all_eq_false]
    refine ⟨s[k]'hks,?_,by rw [h]; decide⟩
    show s.data.toList[k]'(by rw [HSL.out]; exact hks) ∈ _
    exact List.getElem_mem _
   rcases (show (((s[k]'hks).toNat : Int) < 32) ∨ (32 ≤ ((s[k]'hks).toNat : Int) ∧ 126 < ((s[k]'hks).toNat : Int)) ∨ (32 ≤ ((s[k]'hks).toNat : Int) ∧ ((s[k]'hks).toNat : Int) ≤ 126) by omega) with h1 | ⟨h1,h2⟩ | ⟨h1,h2⟩
   ·have HB:=keep (hno (by unfold plainB; simp; omega))
    clear hno
    go_wp2_with fail
    go_ret
    exact ⟨by rw [HB.out]; rfl,rfl⟩
   ·have HB:=keep (hno (by unfold plainB; simp; omega))
    clear hno
    go_wp2_with fail
    go_ret
    exact ⟨by rw [HB.out]; rfl,rfl⟩
   ·have HB:=keep (show ∀ b ∈ s.data.toList.take (k + 1),plainB b = true by
     intro b hb
     rw [List.take_succ_eq_append_getElem (by rw [HSL.out]; exact hks)] at hb
     rcases List.mem_append.1 hb with hb | hb
     ·exact HP.out b hb
     ·simp at hb
      subst hb
      show plainB (s[k]'hks) = true
      unfold plainB
      simp; omega)
    clear hno
    go_wp2_with fail
    go_roundw
    case rel => exact ⟨k + 1,by omega,by go_num,HB,by first | trivial | rfl⟩
    case measure => simp [intOf]; omega
  ·obtain rfl : k = s.size:=by omega
   have HA:=keep (show p = true by
    rw [← HPP.out,List.all_eq_true]
    exact fun b hb => HP.out b (by rw [← HSL.out,List.take_length]; exact hb))
   go_wp2_with fail
   go_ret
   exact ⟨by rw [HA.out]; rfl,rfl⟩
theorem ref4_Check (s : ByteArray) (w : World) (hs : s.size ≤ 4611686018427387904) :
  Calls Tryz.prog 93 #[.string s] w fun e w' => e = .returned (.int .i64 (checkT s.data.toList)) ∧ w' = w:=by
 have hl : s.data.toList.length = s.size:=by rw [Array.length_toList]; rfl
 by_cases h : (s.size : Int) > 256
 ·have HC:=keep (show checkT s.data.toList = 5 by unfold checkT; rw [if_pos (by omega)])
  clear hl
  go_enter Tryz.func93,Tryz.ntmps93
  go_wp2_with fail
  go_ret
  exact ⟨by rw [HC.out]; rfl,rfl⟩
 ·have HC:=keep (show checkT s.data.toList = if s.data.toList.all plainB then 0 else 4 by unfold checkT; rw [if_neg (by omega)])
  clear hl
  obtain ⟨p,hp⟩ : ∃ p,s.data.toList.all plainB = p:=⟨_,rfl⟩
  have HP:=keep hp
  clear hp
  cases p
  ·have HC2:=keep (show checkT s.data.toList = 4 by rw [HC.out,HP.out]; rfl)
   go_enter Tryz.func93,Tryz.ntmps93
   go_wp2_with fail
   refine (ref4_Plain s _ hs).mono ?_
   rintro e w1 ⟨rfl,hw⟩
   obtain rfl : w = w1:=hw.symm
   rw [HP.out]
   go_wp2_with fail
   go_ret
   exact ⟨by rw [HC2.out]; rfl,rfl⟩
  ·have HC2:=keep (show checkT s.data.toList = 0 by rw [HC.out,HP.out]; rfl)
   go_enter Tryz.func93,Tryz.ntmps93
   go_wp2_with fail
   refine (ref4_Plain s _ hs).mono ?_
   rintro e w1 ⟨rfl,hw⟩
   obtain rfl : w = w1:=hw.symm
   rw [HP.out]
   go_wp2_with fail
   go_ret
   exact ⟨by rw [HC2.out]; rfl,rfl⟩
theorem ref4_Quote (s : ByteArray) (w : World) (hs : s.size ≤ 4611686018427387904) :
  Calls Tryz.prog 55 #[.string s] w fun e w' => e = .returned (.tuple #[.string ⟨(quoteT s.data.toList).toArray⟩,.int .i64 (checkT s.data.toList)]) ∧ Below w.heap.size w w':=by
 obtain ⟨i0,hi,hz0,hz1,hz2⟩:=info_parts info_u8
 have HSL:=keep (show s.data.toList.length = s.size by rw [Array.length_toList]; rfl)
 obtain ⟨c,hc⟩ : ∃ c,checkT s.data.toList = c:=⟨_,rfl⟩
 have HC:=keep hc
 clear hc
 by_cases h0 : c = 0
 ·subst h0
  have h256 : s.size ≤ 256:=by
   have h9:=HC.out
   unfold checkT at h9
   rw [HSL.out] at h9
   split at h9
   ·cases h9
   ·omega
  go_enter Tryz.func55,Tryz.ntmps55
  go_wp2_with fail
  refine (ref4_Check s _ hs).mono ?_
  rintro e w1 ⟨rfl,hw⟩
  obtain rfl : w = w1:=hw.symm
  rw [HC.out]
  go_upto_region 5 with fail
  have H0:=Lib.hid (show OkRow w [] 5 1 (.slice (some ⟨w.heap.size,0,none⟩) 1 1) ([34] : List UInt8).length (bytesV [34]) (w.alloc (.cells #[.int .u8 34] 5)) from OkRow.of_new (Ok.start w) ((Below.refl _ _).alloc (Nat.le_refl _) _) (World.ownsRow_lit w #[.int .u8 34] 1 (Nat.le_refl _) (by decide) rfl))
  generalize (w.alloc (.cells #[.int .u8 34] 5)) = W0 at H0 ⊢
  go_wp2_with fail
  go_loopw [5,6] (fun ov iv wr => ∃ (k : Nat) (l : List UInt8),k ≤ s.size ∧ iv = .int .i64 (k : Int) ∧ l.length ≤ 2 * k + 1 ∧ Keep (l = 34 :: (s.data.toList.take k).flatMap quoteB) ∧ Hid (OkRow w [] 5 1 ov l.length (bytesV l) wr)) (fun _ iv _ => s.size - (intOf iv).toNat)
  case atStart => exact ⟨0,[34],Nat.zero_le _,rfl,by decide,keep (by rw [List.take_zero]; rfl),H0⟩
  case round =>
   clear H0
   obtain ⟨k,l,hk,rfl,hll,HQ,H⟩:=hrel
   obtain ⟨wp,rfl⟩ : ∃ wp : World,wp = wr:=⟨_,rfl⟩
   by_cases hlt : (k : Int) < s.size
   ·have hks : k < s.size:=by omega
    obtain ⟨b,hb⟩ : ∃ b,s[k]'hks = b:=⟨_,rfl⟩
    have hbi : ∀ h,((s[k]'h).toNat : Int) = (b.toNat : Int):=fun _ => by rw [hb]
    have HQ2:=keep (show 34 :: (s.data.toList.take (k + 1)).flatMap quoteB = l ++ quoteB b by
     rw [List.take_succ_eq_append_getElem (by rw [HSL.out]; exact hks),List.flatMap_append,HQ.out,show s.data.toList[k]'(by rw [HSL.out]; exact hks) = b from hb]
     simp)
    clear hb
    by_cases h34 : b = 34
    ·subst h34
     go_upto_region 9 with (at_builtin; refine wpList_append_lies _ rfl _ _ _ rfl w.heap.size 5 i0 _ 1 1 Tryz.underlying43 hi hz0 hz1 hz2 rfl (by omega) _ _ _ rfl (H.out.own.alloc _) ⟨wp.heap.size,0,none⟩ 1 1 [.int .u8 (34 : UInt8).toNat] rfl rfl (World.news_of_block (cs:=#[.int .u8 (34 : UInt8).toNat]) (t:=5) (fr:=(0,0)) (heap_alloc_new _ _)) (by intro u hu; simp at hu; rcases hu with rfl; rfl) (by omega) (by unfold maxLen; omega) (by omega) (by have:=H.out.ok.bel.size; simp; omega) _ rfl ?_; intro g3 cap3 w3 hown3 hgrow3 hat3 hlt3)
     obtain ⟨m,hm⟩ : ∃ m,l ++ [34] = m:=⟨_,rfl⟩
     have hml : l.length + 1 = m.length:=by rw [← hm]; simp
     have H3:=Lib.hid (show OkRow w [] 5 1 (.slice (some ⟨g3,0,none⟩) m.length cap3) m.length (bytesV m) w3 by rw [← hml,← hm,bytesV_snoc]; exact (H.out.alloc_obj _).appended hown3 hgrow3 hat3)
     have HMM:=keep hm
     have HML:=keep hml
     have hm600 : m.length ≤ 600:=by omega
     rw [hml]
     clear hown3 hgrow3 hat3 hlt3 H hm hml
     go_wp2_with (at_builtin; refine wpList_append_lies _ rfl _ _ _ rfl w.heap.size 5 i0 _ 1 1 Tryz.underlying43 hi hz0 hz1 hz2 rfl (by omega) _ _ _ rfl (H3.out.own.alloc _) ⟨w3.heap.size,0,none⟩ 1 1 [.int .u8 (34 : UInt8).toNat] rfl rfl (World.news_of_block (cs:=#[.int .u8 (34 : UInt8).toNat]) (t:=5) (fr:=(0,0)) (heap_alloc_new _ _)) (by intro u hu; simp at hu; rcases hu with rfl; rfl) (by omega) (by unfold maxLen; omega) (by omega) (by have:=H3.out.ok.bel.size; simp; omega) _ rfl ?_; intro g4 cap4 w4 hown4 hgrow4 hat4 hlt4)
     go_roundw
     case rel => exact ⟨k + 1,m ++ [34],by omega,by go_num,by have:=HML.out; simp; omega,keep (by rw [HQ2.out,← HMM.out]; simp [quoteB]),by rw [bytesV_snoc,List.length_append]; exact (H3.out.alloc_obj _).appended hown4 hgrow4 hat4⟩
     case measure => simp [intOf]; omega
    ·have hb34 : ((b.toNat : Int) == 34) = false:=by simpa using byte_int (k:=34) h34
     have HQ3:=keep (show quoteB b = [b] by unfold quoteB; rw [if_neg h34])
     clear h34
     go_wp2_with (at_builtin; refine wpList_append_lies _ rfl _ _ _ rfl w.heap.size 5 i0 _ 1 1 Tryz.underlying43 hi hz0 hz1 hz2 rfl (by omega) _ _ _ rfl (H.out.own.alloc _) ⟨wp.heap.size,0,none⟩ 1 1 [.int .u8 b.toNat] rfl rfl (World.news_of_block (cs:=#[.int .u8 b.toNat]) (t:=5) (fr:=(0,0)) (heap_alloc_new _ _)) (by intro u hu; simp at hu; rcases hu with rfl; rfl) (by omega) (by unfold maxLen; omega) (by omega) (by have:=H.out.ok.bel.size; simp; omega) _ rfl ?_; intro g3 cap3 w3 hown3 hgrow3 hat3 hlt3)
     go_roundw
     case rel => exact ⟨k + 1,l ++ [b],by omega,by go_num,by simp; omega,keep (by rw [HQ2.out,HQ3.out]),by rw [bytesV_snoc,List.length_append]; exact (H.out.alloc_obj _).appended hown3 hgrow3 hat3⟩
     case measure => simp [intOf]; omega
   ·obtain rfl : k = s.size:=by omega
    have HE:=keep (show quoteT s.data.toList = l ++ [34] by
     unfold quoteT
     rw [if_pos HC.out,HQ.out]
     unfold quoteS
     rw [← HSL.out,List.take_length]
     rfl)
    go_wp2_with (at_builtin; refine wpList_append_lies _ rfl _ _ _ rfl w.heap.size 5 i0 _ 1 1 Tryz.underlying43 hi hz0 hz1 hz2 rfl (by omega) _ _ _ rfl (H.out.own.alloc _) ⟨wp.heap.size,0,none⟩ 1 1 [.int .u8 (34 : UInt8).toNat] rfl rfl (World.news_of_block (cs:=#[.int .u8 (34 : UInt8).toNat]) (t:=5) (fr:=(0,0)) (heap_alloc_new _ _)) (by intro u hu; simp at hu; rcases hu with rfl; rfl) (by omega) (by unfold maxLen; omega) (by omega) (by have:=H.out.ok.bel.size; simp; omega) _ rfl ?_; intro g3 cap3 w3 hown3 hgrow3 hat3 hlt3; have hcv:=own_string (l:=l ++ [34]) (show w3.ownsRow w.heap.size 5 1 (.slice (some ⟨g3,0,none⟩) (l.length + 1) cap3) (l ++ [34]).length (bytesV (l ++ [34])) by rw [bytesV_snoc,List.length_append]; exact hown3))
    have H3:=Lib.hid (show OkRow w [] 5 1 (.slice (some ⟨g3,0,none⟩) (l.length + 1) cap3) (l ++ [34]).length (bytesV (l ++ [34])) w3 by rw [bytesV_snoc,List.length_append]; exact (H.out.alloc_obj _).appended hown3 hgrow3 hat3)
    exact bodyPost_ret (v:=.tuple #[.string ⟨(l ++ [34]).toArray⟩,.int .i64 0]) (by simp [results,Tryz.results55,go_sem]) rfl ⟨by rw [HE.out,HC.out],H3.out.ok.bel⟩
 ·have h0b : (c != 0) = true:=by simpa using h0
  have HE:=keep (show quoteT s.data.toList = [] by unfold quoteT; rw [HC.out,if_neg h0])
  clear h0
  go_enter Tryz.func55,Tryz.ntmps55
  go_wp2_with fail
  refine (ref4_Check s _ hs).mono ?_
  rintro e w1 ⟨rfl,hw⟩
  obtain rfl : w = w1:=hw.symm
  rw [HC.out]
  go_wp2_with fail
  exact bodyPost_ret (v:=.tuple #[.string ⟨#[]⟩,.int .i64 c]) (by simp [results,Tryz.results55,go_sem]) rfl ⟨by rw [HE.out,HC.out],Below.refl _ _⟩
end Go.Proofs.YtnbemkiplnanlaaGreatDoor
namespace Go.Proofs.YtnbemkiplnanlaaGreatDoor
set_option maxRecDepth 100000
set_option maxHeartbeats 4000000
open Go.RowKit
theorem cv0_yes  (w : World) :
  Calls Tryz.prog 68 #[.agg #[.int .u8 0,.int .i64 0,.string ⟨#[]⟩]] w fun e w' => e = .returned (.int .i64 0) ∧ Below w.heap.size w w':=by
 have H1:=Lib.hid ((Ok.start w).alloc w.heap.size 35 [.int .u8 0,.int .i64 0,.string ⟨#[]⟩] rfl)
 go_enter Tryz.func68,Tryz.ntmps68
 go_wp2_with fail
 generalize (w.alloc (.cells #[.int .u8 0,.int .i64 0,.string ⟨#[]⟩] 35)) = W2 at H1 ⊢
 go_ret
 exact ⟨rfl,H1.out.bel⟩
theorem cv0_txt (s : ByteArray) (hs : s.toList.isEmpty = false) (w : World) :
  Calls Tryz.prog 68 #[.agg #[.int .u8 0,.int .i64 0,.string s]] w fun e w' => e = .returned (.int .i64 2) ∧ Below w.heap.size w w':=by
 have H1:=Lib.hid ((Ok.start w).alloc w.heap.size 35 [.int .u8 0,.int .i64 0,.string s] rfl)
 go_enter Tryz.func68,Tryz.ntmps68
 go_wp2_with fail
 generalize (w.alloc (.cells #[.int .u8 0,.int .i64 0,.string s] 35)) = W2 at H1 ⊢
 go_ret
 exact ⟨rfl,H1.out.bel⟩
theorem cv0_num (n : Int) (s : ByteArray) (hn : (n == 0) = false) (w : World) :
  Calls Tryz.prog 68 #[.agg #[.int .u8 0,.int .i64 n,.string s]] w fun e w' => e = .returned (.int .i64 2) ∧ Below w.heap.size w w':=by
 have H1:=Lib.hid ((Ok.start w).alloc w.heap.size 35 [.int .u8 0,.int .i64 n,.string s] rfl)
 go_enter Tryz.func68,Tryz.ntmps68
 go_wp2_with fail
 generalize (w.alloc (.cells #[.int .u8 0,.int .i64 n,.string s] 35)) = W2 at H1 ⊢
 go_ret
 exact ⟨rfl,H1.out.bel⟩
theorem cv1_yes (n : Int) (hn : -9223372036854775807 ≤ n) (w : World) :
  Calls Tryz.prog 68 #[.agg #[.int .u8 1,.int .i64 n,.string ⟨#[]⟩]] w fun e w' => e = .returned (.int .i64 0) ∧ Below w.heap.size w w':=by
 have H1:=Lib.hid ((Ok.start w).alloc w.heap.size 35 [.int .u8 1,.int .i64 n,.string ⟨#[]⟩] rfl)
 go_enter Tryz.func68,Tryz.ntmps68
 go_wp2_with fail
 generalize (w.alloc (.cells #[.int .u8 1,.int .i64 n,.string ⟨#[]⟩] 35)) = W2 at H1 ⊢
 go_ret
 exact ⟨rfl,H1.out.bel⟩
theorem cv1_txt (n : Int) (s : ByteArray) (hn : -9223372036854775807 ≤ n) (hs : s.toList.isEmpty = false) (w : World) :
  Calls Tryz.prog 68 #[.agg #[.int .u8 1,.int .i64 n,.string s]] w fun e w' => e = .returned (.int .i64 2) ∧ Below w.heap.size w w':=by
 have H1:=Lib.hid ((Ok.start w).alloc w.heap.size 35 [.int .u8 1,.int .i64 n,.string s] rfl)
 go_enter Tryz.func68,Tryz.ntmps68
 go_wp2_with fail
 generalize (w.alloc (.cells #[.int .u8 1,.int .i64 n,.string s] 35)) = W2 at H1 ⊢
 go_ret
 exact ⟨rfl,H1.out.bel⟩
theorem cv1_num (n : Int) (s : ByteArray) (hn : decide (-9223372036854775807 ≤ n) = false) (w : World) :
  Calls Tryz.prog 68 #[.agg #[.int .u8 1,.int .i64 n,.string s]] w fun e w' => e = .returned (.int .i64 2) ∧ Below w.heap.size w w':=by
 have H1:=Lib.hid ((Ok.start w).alloc w.heap.size 35 [.int .u8 1,.int .i64 n,.string s] rfl)
 go_enter Tryz.func68,Tryz.ntmps68
 go_wp2_with fail
 generalize (w.alloc (.cells #[.int .u8 1,.int .i64 n,.string s] 35)) = W2 at H1 ⊢
 go_ret
 exact ⟨rfl,H1.out.bel⟩
theorem cv2_yes0  (w : World) :
  Calls Tryz.prog 68 #[.agg #[.int .u8 2,.int .i64 0,.string ⟨#[]⟩]] w fun e w' => e = .returned (.int .i64 0) ∧ Below w.heap.size w w':=by
 have H1:=Lib.hid ((Ok.start w).alloc w.heap.size 35 [.int .u8 2,.int .i64 0,.string ⟨#[]⟩] rfl)
 go_enter Tryz.func68,Tryz.ntmps68
 go_wp2_with fail
 generalize (w.alloc (.cells #[.int .u8 2,.int .i64 0,.string ⟨#[]⟩] 35)) = W2 at H1 ⊢
 go_ret
 exact ⟨rfl,H1.out.bel⟩
theorem cv2_txt0 (s : ByteArray) (hs : s.toList.isEmpty = false) (w : World) :
  Calls Tryz.prog 68 #[.agg #[.int .u8 2,.int .i64 0,.string s]] w fun e w' => e = .returned (.int .i64 2) ∧ Below w.heap.size w w':=by
 have H1:=Lib.hid ((Ok.start w).alloc w.heap.size 35 [.int .u8 2,.int .i64 0,.string s] rfl)
 go_enter Tryz.func68,Tryz.ntmps68
 go_wp2_with fail
 generalize (w.alloc (.cells #[.int .u8 2,.int .i64 0,.string s] 35)) = W2 at H1 ⊢
 go_ret
 exact ⟨rfl,H1.out.bel⟩
theorem cv2_yes1  (w : World) :
  Calls Tryz.prog 68 #[.agg #[.int .u8 2,.int .i64 1,.string ⟨#[]⟩]] w fun e w' => e = .returned (.int .i64 0) ∧ Below w.heap.size w w':=by
 have H1:=Lib.hid ((Ok.start w).alloc w.heap.size 35 [.int .u8 2,.int .i64 1,.string ⟨#[]⟩] rfl)
 go_enter Tryz.func68,Tryz.ntmps68
 go_wp2_with fail
 generalize (w.alloc (.cells #[.int .u8 2,.int .i64 1,.string ⟨#[]⟩] 35)) = W2 at H1 ⊢
 go_ret
 exact ⟨rfl,H1.out.bel⟩
theorem cv2_txt1 (s : ByteArray) (hs : s.toList.isEmpty = false) (w : World) :
  Calls Tryz.prog 68 #[.agg #[.int .u8 2,.int .i64 1,.string s]] w fun e w' => e = .returned (.int .i64 2) ∧ Below w.heap.size w w':=by
 have H1:=Lib.hid ((Ok.start w).alloc w.heap.size 35 [.int .u8 2,.int .i64 1,.string s] rfl)
 go_enter Tryz.func68,Tryz.ntmps68
 go_wp2_with fail
 generalize (w.alloc (.cells #[.int .u8 2,.int .i64 1,.string s] 35)) = W2 at H1 ⊢
 go_ret
 exact ⟨rfl,H1.out.bel⟩
theorem cv2_num (n : Int) (s : ByteArray) (hn : (n == 0) = false) (hm : (n == 1) = false) (w : World) :
  Calls Tryz.prog 68 #[.agg #[.int .u8 2,.int .i64 n,.string s]] w fun e w' => e = .returned (.int .i64 2) ∧ Below w.heap.size w w':=by
 have H1:=Lib.hid ((Ok.start w).alloc w.heap.size 35 [.int .u8 2,.int .i64 n,.string s] rfl)
 go_enter Tryz.func68,Tryz.ntmps68
 go_wp2_with fail
 generalize (w.alloc (.cells #[.int .u8 2,.int .i64 n,.string s] 35)) = W2 at H1 ⊢
 go_ret
 exact ⟨rfl,H1.out.bel⟩
theorem cv3_yes (s : ByteArray) (hs : s.size ≤ 4611686018427387904) (hc : checkT s.data.toList = 0) (w : World) :
  Calls Tryz.prog 68 #[.agg #[.int .u8 3,.int .i64 0,.string s]] w fun e w' => e = .returned (.int .i64 0) ∧ Below w.heap.size w w':=by
 have HC:=keep hc
 clear hc
 have H1:=Lib.hid ((Ok.start w).alloc w.heap.size 35 [.int .u8 3,.int .i64 0,.string s] rfl)
 go_enter Tryz.func68,Tryz.ntmps68
 go_wp2_with fail
 generalize (w.alloc (.cells #[.int .u8 3,.int .i64 0,.string s] 35)) = W2 at H1 ⊢
 refine (ref4_Check _ _ hs).mono ?_
 rintro e w3 ⟨rfl,rfl⟩
 rw [HC.out]
 go_wp2_with fail
 go_ret
 exact ⟨rfl,H1.out.bel⟩
theorem cv3_txt (s : ByteArray) (c : Int) (hs : s.size ≤ 4611686018427387904) (hc : checkT s.data.toList = c) (h0 : (c == 0) = false) (w : World) :
  Calls Tryz.prog 68 #[.agg #[.int .u8 3,.int .i64 0,.string s]] w fun e w' => e = .returned (.int .i64 2) ∧ Below w.heap.size w w':=by
 have HC:=keep hc
 clear hc
 have H1:=Lib.hid ((Ok.start w).alloc w.heap.size 35 [.int .u8 3,.int .i64 0,.string s] rfl)
 go_enter Tryz.func68,Tryz.ntmps68
 go_wp2_with fail
 generalize (w.alloc (.cells #[.int .u8 3,.int .i64 0,.string s] 35)) = W2 at H1 ⊢
 refine (ref4_Check _ _ hs).mono ?_
 rintro e w3 ⟨rfl,rfl⟩
 rw [HC.out]
 go_wp2_with fail
 go_ret
 exact ⟨rfl,H1.out.bel⟩
theorem cv3_num (n : Int) (s : ByteArray) (hn : (n == 0) = false) (w : World) :
  Calls Tryz.prog 68 #[.agg #[.int .u8 3,.int .i64 n,.string s]] w fun e w' => e = .returned (.int .i64 2) ∧ Below w.heap.size w w':=by
 have H1:=Lib.hid ((Ok.start w).alloc w.heap.size 35 [.int .u8 3,.int .i64 n,.string s] rfl)
 go_enter Tryz.func68,Tryz.ntmps68
 go_wp2_with fail
 generalize (w.alloc (.cells #[.int .u8 3,.int .i64 n,.string s] 35)) = W2 at H1 ⊢
 go_ret
 exact ⟨rfl,H1.out.bel⟩
theorem cv4_yes (n : Int) (h1 : 1 ≤ n) (h6 : n ≤ 6) (w : World) :
  Calls Tryz.prog 68 #[.agg #[.int .u8 4,.int .i64 n,.string ⟨#[]⟩]] w fun e w' => e = .returned (.int .i64 0) ∧ Below w.heap.size w w':=by
 have H1:=Lib.hid ((Ok.start w).alloc w.heap.size 35 [.int .u8 4,.int .i64 n,.string ⟨#[]⟩] rfl)
 go_enter Tryz.func68,Tryz.ntmps68
 go_wp2_with fail
 generalize (w.alloc (.cells #[.int .u8 4,.int .i64 n,.string ⟨#[]⟩] 35)) = W2 at H1 ⊢
 go_ret
 exact ⟨rfl,H1.out.bel⟩
theorem cv4_txt (n : Int) (s : ByteArray) (h1 : 1 ≤ n) (h6 : n ≤ 6) (hs : s.toList.isEmpty = false) (w : World) :
  Calls Tryz.prog 68 #[.agg #[.int .u8 4,.int .i64 n,.string s]] w fun e w' => e = .returned (.int .i64 2) ∧ Below w.heap.size w w':=by
 have H1:=Lib.hid ((Ok.start w).alloc w.heap.size 35 [.int .u8 4,.int .i64 n,.string s] rfl)
 go_enter Tryz.func68,Tryz.ntmps68
 go_wp2_with fail
 generalize (w.alloc (.cells #[.int .u8 4,.int .i64 n,.string s] 35)) = W2 at H1 ⊢
 go_ret
 exact ⟨rfl,H1.out.bel⟩
theorem cv4_low (n : Int) (s : ByteArray) (h1 : decide (1 ≤ n) = false) (w : World) :
  Calls Tryz.prog 68 #[.agg #[.int .u8 4,.int .i64 n,.string s]] w fun e w' => e = .returned (.int .i64 2) ∧ Below w.heap.size w w':=by
 have H1:=Lib.hid ((Ok.start w).alloc w.heap.size 35 [.int .u8 4,.int .i64 n,.string s] rfl)
 go_enter Tryz.func68,Tryz.ntmps68
 go_wp2_with fail
 generalize (w.alloc (.cells #[.int .u8 4,.int .i64 n,.string s] 35)) = W2 at H1 ⊢
 go_ret
 exact ⟨rfl,H1.out.bel⟩
theorem cv4_high (n : Int) (s : ByteArray) (h1 : 1 ≤ n) (h6 : decide (n ≤ 6) = false) (w : World) :
  Calls Tryz.prog 68 #[.agg #[.int .u8 4,.int .i64 n,.string s]] w fun e w' => e = .returned (.int .i64 2) ∧ Below w.heap.size w w':=by
 have H1:=Lib.hid ((Ok.start w).alloc w.heap.size 35 [.int .u8 4,.int .i64 n,.string s] rfl)
 go_enter Tryz.func68,Tryz.ntmps68
 go_wp2_with fail
 generalize (w.alloc (.cells #[.int .u8 4,.int .i64 n,.string s] 35)) = W2 at H1 ⊢
 go_ret
 exact ⟨rfl,H1.out.bel⟩
theorem cv5_no (k n : Int) (s : ByteArray) (h0 : (k == 0) = false) (h1 : (k == 1) = false) (h2 : (k == 2) = false) (h3 : (k == 3) = false) (h4 : (k == 4) = false) (w : World) :
  Calls Tryz.prog 68 #[.agg #[.int .u8 k,.int .i64 n,.string s]] w fun e w' => e = .returned (.int .i64 2) ∧ Below w.heap.size w w':=by
 have H1:=Lib.hid ((Ok.start w).alloc w.heap.size 35 [.int .u8 k,.int .i64 n,.string s] rfl)
 go_enter Tryz.func68,Tryz.ntmps68
 go_wp2_with fail
 generalize (w.alloc (.cells #[.int .u8 k,.int .i64 n,.string s] 35)) = W2 at H1 ⊢
 go_ret
 exact ⟨rfl,H1.out.bel⟩
theorem str_cases (s : ByteArray) : s = ⟨#[]⟩ ∨ (s.toList.isEmpty = false ∧ s.data.toList ≠ []):=by
 by_cases h : s = ⟨#[]⟩
 ·exact .inl h
 ·obtain ⟨h1,h2⟩:=str_nil h
  exact .inr ⟨h2,h1⟩
theorem ref5_CheckV (k : Nat) (n : Int) (s : ByteArray) (hs : s.size ≤ 4611686018427387904) (hlo : -9223372036854775808 ≤ n) (w : World) :
  Calls Tryz.prog 68 #[.agg #[.int .u8 (k : Nat),.int .i64 n,.string s]] w fun e w' => e = .returned (.int .i64 (valE k n s.data.toList)) ∧ Below w.heap.size w w':=by
 have ne : ∀ {a b : Int},a ≠ b → (a == b) = false:=fun h => beq_eq_false_iff_ne.2 h
 have nn : (⟨#[]⟩ : ByteArray).data.toList = []:=rfl
 by_cases k0 : k = 0
 ·subst k0
  by_cases hn : n = 0
  ·subst hn
   rcases str_cases s with rfl | ⟨g1,g2⟩
   ·rw [valE_yes (.inl ⟨rfl,rfl,nn⟩)]; exact cv0_yes w
   ·rw [valE_no (by rintro (⟨-,-,h⟩ | ⟨h,-⟩ | ⟨h,-⟩ | ⟨h,-⟩ | ⟨h,-⟩) <;> first | exact g2 h | cases h)]; exact cv0_txt s g1 w
  ·rw [valE_no (by rintro (⟨-,h,-⟩ | ⟨h,-⟩ | ⟨h,-⟩ | ⟨h,-⟩ | ⟨h,-⟩) <;> first | exact hn h | cases h)]; exact cv0_num n s (ne hn) w
 by_cases k1 : k = 1
 ·subst k1
  by_cases hn : n = -9223372036854775808
  ·rw [valE_no (by rintro (⟨h,-⟩ | ⟨-,-,h⟩ | ⟨h,-⟩ | ⟨h,-⟩ | ⟨h,-⟩) <;> first | exact h hn | cases h)]; exact cv1_num n s (by simp; omega) w
  ·rcases str_cases s with rfl | ⟨g1,g2⟩
   ·rw [valE_yes (.inr (.inl ⟨rfl,nn,hn⟩))]; exact cv1_yes n (by omega) w
   ·rw [valE_no (by rintro (⟨h,-⟩ | ⟨-,h,-⟩ | ⟨h,-⟩ | ⟨h,-⟩ | ⟨h,-⟩) <;> first | exact g2 h | cases h)]; exact cv1_txt n s (by omega) g1 w
 by_cases k2 : k = 2
 ·subst k2
  by_cases hn : n = 0
  ·subst hn
   rcases str_cases s with rfl | ⟨g1,g2⟩
   ·rw [valE_yes (.inr (.inr (.inl ⟨rfl,nn,.inl rfl⟩)))]; exact cv2_yes0 w
   ·rw [valE_no (by rintro (⟨h,-⟩ | ⟨h,-⟩ | ⟨-,h,-⟩ | ⟨h,-⟩ | ⟨h,-⟩) <;> first | exact g2 h | cases h)]; exact cv2_txt0 s g1 w
  by_cases hm : n = 1
  ·subst hm
   rcases str_cases s with rfl | ⟨g1,g2⟩
   ·rw [valE_yes (.inr (.inr (.inl ⟨rfl,nn,.inr rfl⟩)))]; exact cv2_yes1 w
   ·rw [valE_no (by rintro (⟨h,-⟩ | ⟨h,-⟩ | ⟨-,h,-⟩ | ⟨h,-⟩ | ⟨h,-⟩) <;> first | exact g2 h | cases h)]; exact cv2_txt1 s g1 w
  ·rw [valE_no (by rintro (⟨h,-⟩ | ⟨h,-⟩ | ⟨-,-,h⟩ | ⟨h,-⟩ | ⟨h,-⟩) <;> first | omega | cases h)]; exact cv2_num n s (ne hn) (ne hm) w
 by_cases k3 : k = 3
 ·subst k3
  by_cases hn : n = 0
  ·subst hn
   by_cases hc : checkT s.data.toList = 0
   ·rw [valE_yes (.inr (.inr (.inr (.inl ⟨rfl,rfl,hc⟩))))]; exact cv3_yes s hs hc w
   ·rw [valE_no (by rintro (⟨h,-⟩ | ⟨h,-⟩ | ⟨h,-⟩ | ⟨-,-,h⟩ | ⟨h,-⟩) <;> first | exact hc h | cases h)]; exact cv3_txt s _ hs rfl (ne hc) w
  ·rw [valE_no (by rintro (⟨h,-⟩ | ⟨h,-⟩ | ⟨h,-⟩ | ⟨-,h,-⟩ | ⟨h,-⟩) <;> first | exact hn h | cases h)]; exact cv3_num n s (ne hn) w
 by_cases k4 : k = 4
 ·subst k4
  by_cases h1 : 1 ≤ n
  ·by_cases h6 : n ≤ 6
   ·rcases str_cases s with rfl | ⟨g1,g2⟩
    ·rw [valE_yes (.inr (.inr (.inr (.inr ⟨rfl,nn,h1,h6⟩))))]; exact cv4_yes n h1 h6 w
    ·rw [valE_no (by rintro (⟨h,-⟩ | ⟨h,-⟩ | ⟨h,-⟩ | ⟨h,-⟩ | ⟨-,h,-⟩) <;> first | exact g2 h | cases h)]; exact cv4_txt n s h1 h6 g1 w
   ·rw [valE_no (by rintro (⟨h,-⟩ | ⟨h,-⟩ | ⟨h,-⟩ | ⟨h,-⟩ | ⟨-,-,-,h⟩) <;> first | exact h6 h | cases h)]; exact cv4_high n s h1 (by simp; omega) w
  ·rw [valE_no (by rintro (⟨h,-⟩ | ⟨h,-⟩ | ⟨h,-⟩ | ⟨h,-⟩ | ⟨-,-,h,-⟩) <;> first | exact h1 h | cases h)]; exact cv4_low n s (by simp; omega) w
 ·rw [valE_no (by rintro (⟨h,-⟩ | ⟨h,-⟩ | ⟨h,-⟩ | ⟨h,-⟩ | ⟨h,-⟩) <;> omega)]
  exact cv5_no k n s (ne (by omega)) (ne (by omega)) (ne (by omega)) (ne (by omega)) (ne (by omega)) w
theorem chk_iff (t : List UInt8) : checkT t = 0 ↔ t.length ≤ 256 ∧ t.all plainB = true:=by
 unfold checkT
 constructor
 ·intro h
  split at h
  ·exact absurd h (by decide)
  ·split at h
   ·exact ⟨by omega,by assumption⟩
   ·exact absurd h (by decide)
 ·rintro ⟨h1,h2⟩
  rw [if_neg (by omega),if_pos h2]
theorem good_cell {k : Nat} {n : Int} {t : List UInt8} : goodV k n t ↔ cellV k n t ∧ k ≠ 0 ∧ (k = 1 → 0 ≤ n) ∧ (k = 4 → n ≠ 6):=by
 unfold goodV cellV
 rw [chk_iff]
 constructor
 ·rintro (⟨rfl,h0,rfl⟩ | ⟨rfl,h0,rfl⟩ | ⟨rfl,rfl,h1,h2⟩ | ⟨rfl,⟨h1,h5⟩,rfl⟩)
  ·exact ⟨.inr (.inl ⟨rfl,rfl,by omega⟩),by decide,fun _ => h0,(fun h => absurd h (by decide))⟩
  ·exact ⟨.inr (.inr (.inl ⟨rfl,rfl,h0⟩)),by decide,(fun h => absurd h (by decide)),(fun h => absurd h (by decide))⟩
  ·exact ⟨.inr (.inr (.inr (.inl ⟨rfl,rfl,h1,h2⟩))),by decide,(fun h => absurd h (by decide)),(fun h => absurd h (by decide))⟩
  ·exact ⟨.inr (.inr (.inr (.inr ⟨rfl,rfl,h1,by omega⟩))),by decide,(fun h => absurd h (by decide)),fun _ => by omega⟩
 ·rintro ⟨⟨rfl,-⟩ | ⟨rfl,rfl,h0⟩ | ⟨rfl,rfl,h0⟩ | ⟨rfl,rfl,h1,h2⟩ | ⟨rfl,rfl,h1,h6⟩,g0,g1,g4⟩
  ·exact absurd rfl g0
  ·exact .inl ⟨rfl,g1 rfl,rfl⟩
  ·exact .inr (.inl ⟨rfl,h0,rfl⟩)
  ·exact .inr (.inr (.inl ⟨rfl,rfl,h1,h2⟩))
  ·exact .inr (.inr (.inr ⟨rfl,⟨h1,by have:=g4 rfl; omega⟩,rfl⟩))
open Classical in
noncomputable def litB (k : Nat) (n : Int) (t : List UInt8) : Bool:=decide (goodV k n t)
theorem l8_bad (k n : Int) (s : ByteArray) (w : World) (HC : ∀ w,Calls Tryz.prog 68 #[.agg #[.int .u8 k,.int .i64 n,.string s]] w fun e w' => e = .returned (.int .i64 2) ∧ Below w.heap.size w w') :
  Calls Tryz.prog 53 #[.agg #[.int .u8 k,.int .i64 n,.string s]] w fun e w' => e = .returned (.bool false) ∧ Below w.heap.size w w':=by
 have HCC:=keep HC
 clear HC
 have H1:=Lib.hid ((Ok.start w).alloc w.heap.size 35 [.int .u8 k,.int .i64 n,.string s] rfl)
 go_enter Tryz.func53,Tryz.ntmps53
 go_wp2_with fail
 generalize (w.alloc (.cells #[.int .u8 k,.int .i64 n,.string s] 35)) = W2 at H1 ⊢
 refine (HCC.out _).mono ?_
 rintro e w3 ⟨rfl,hb4⟩
 have H5:=Lib.hid (H1.out.below hb4)
 clear hb4 H1
 have F6:=H5.out.sees
 simp only [sees,kBlk,cellsAt,Nat.reduceAdd] at F6
 obtain ⟨⟨z0,c0_0,c0_1,c0_2,-⟩,-⟩:=F6
 go_wp2_with fail
 go_ret
 exact ⟨rfl,H5.out.bel⟩
theorem l8_0 (n : Int) (s : ByteArray) (w : World) (HC : ∀ w,Calls Tryz.prog 68 #[.agg #[.int .u8 0,.int .i64 n,.string s]] w fun e w' => e = .returned (.int .i64 0) ∧ Below w.heap.size w w') :
  Calls Tryz.prog 53 #[.agg #[.int .u8 0,.int .i64 n,.string s]] w fun e w' => e = .returned (.bool false) ∧ Below w.heap.size w w':=by
 have HCC:=keep HC
 clear HC
 have H1:=Lib.hid ((Ok.start w).alloc w.heap.size 35 [.int .u8 0,.int .i64 n,.string s] rfl)
 go_enter Tryz.func53,Tryz.ntmps53
 go_wp2_with fail
 generalize (w.alloc (.cells #[.int .u8 0,.int .i64 n,.string s] 35)) = W2 at H1 ⊢
 refine (HCC.out _).mono ?_
 rintro e w3 ⟨rfl,hb4⟩
 have H5:=Lib.hid (H1.out.below hb4)
 clear hb4 H1
 have F6:=H5.out.sees
 simp only [sees,kBlk,cellsAt,Nat.reduceAdd] at F6
 obtain ⟨⟨z0,c0_0,c0_1,c0_2,-⟩,-⟩:=F6
 go_wp2_with fail
 go_ret
 exact ⟨rfl,H5.out.bel⟩
theorem l8_1y (n : Int) (s : ByteArray) (h : 0 ≤ n) (w : World) (HC : ∀ w,Calls Tryz.prog 68 #[.agg #[.int .u8 1,.int .i64 n,.string s]] w fun e w' => e = .returned (.int .i64 0) ∧ Below w.heap.size w w') :
  Calls Tryz.prog 53 #[.agg #[.int .u8 1,.int .i64 n,.string s]] w fun e w' => e = .returned (.bool true) ∧ Below w.heap.size w w':=by
 have HCC:=keep HC
 clear HC
 have H1:=Lib.hid ((Ok.start w).alloc w.heap.size 35 [.int .u8 1,.int .i64 n,.string s] rfl)
 go_enter Tryz.func53,Tryz.ntmps53
 go_wp2_with fail
 generalize (w.alloc (.cells #[.int .u8 1,.int .i64 n,.string s] 35)) = W2 at H1 ⊢
 refine (HCC.out _).mono ?_
 rintro e w3 ⟨rfl,hb4⟩
 have H5:=Lib.hid (H1.out.below hb4)
 clear hb4 H1
 have F6:=H5.out.sees
 simp only [sees,kBlk,cellsAt,Nat.reduceAdd] at F6
 obtain ⟨⟨z0,c0_0,c0_1,c0_2,-⟩,-⟩:=F6
 go_wp2_with fail
 go_ret
 exact ⟨rfl,H5.out.bel⟩
theorem l8_1n (n : Int) (s : ByteArray) (h : decide (0 ≤ n) = false) (w : World) (HC : ∀ w,Calls Tryz.prog 68 #[.agg #[.int .u8 1,.int .i64 n,.string s]] w fun e w' => e = .returned (.int .i64 0) ∧ Below w.heap.size w w') :
  Calls Tryz.prog 53 #[.agg #[.int .u8 1,.int .i64 n,.string s]] w fun e w' => e = .returned (.bool false) ∧ Below w.heap.size w w':=by
 have HCC:=keep HC
 clear HC
 have H1:=Lib.hid ((Ok.start w).alloc w.heap.size 35 [.int .u8 1,.int .i64 n,.string s] rfl)
 go_enter Tryz.func53,Tryz.ntmps53
 go_wp2_with fail
 generalize (w.alloc (.cells #[.int .u8 1,.int .i64 n,.string s] 35)) = W2 at H1 ⊢
 refine (HCC.out _).mono ?_
 rintro e w3 ⟨rfl,hb4⟩
 have H5:=Lib.hid (H1.out.below hb4)
 clear hb4 H1
 have F6:=H5.out.sees
 simp only [sees,kBlk,cellsAt,Nat.reduceAdd] at F6
 obtain ⟨⟨z0,c0_0,c0_1,c0_2,-⟩,-⟩:=F6
 go_wp2_with fail
 go_ret
 exact ⟨rfl,H5.out.bel⟩
theorem l8_2 (n : Int) (s : ByteArray) (w : World) (HC : ∀ w,Calls Tryz.prog 68 #[.agg #[.int .u8 2,.int .i64 n,.string s]] w fun e w' => e = .returned (.int .i64 0) ∧ Below w.heap.size w w') :
  Calls Tryz.prog 53 #[.agg #[.int .u8 2,.int .i64 n,.string s]] w fun e w' => e = .returned (.bool true) ∧ Below w.heap.size w w':=by
 have HCC:=keep HC
 clear HC
 have H1:=Lib.hid ((Ok.start w).alloc w.heap.size 35 [.int .u8 2,.int .i64 n,.string s] rfl)
 go_enter Tryz.func53,Tryz.ntmps53
 go_wp2_with fail
 generalize (w.alloc (.cells #[.int .u8 2,.int .i64 n,.string s] 35)) = W2 at H1 ⊢
 refine (HCC.out _).mono ?_
 rintro e w3 ⟨rfl,hb4⟩
 have H5:=Lib.hid (H1.out.below hb4)
 clear hb4 H1
 have F6:=H5.out.sees
 simp only [sees,kBlk,cellsAt,Nat.reduceAdd] at F6
 obtain ⟨⟨z0,c0_0,c0_1,c0_2,-⟩,-⟩:=F6
 go_wp2_with fail
 go_ret
 exact ⟨rfl,H5.out.bel⟩
theorem l8_3 (n : Int) (s : ByteArray) (w : World) (HC : ∀ w,Calls Tryz.prog 68 #[.agg #[.int .u8 3,.int .i64 n,.string s]] w fun e w' => e = .returned (.int .i64 0) ∧ Below w.heap.size w w') :
  Calls Tryz.prog 53 #[.agg #[.int .u8 3,.int .i64 n,.string s]] w fun e w' => e = .returned (.bool true) ∧ Below w.heap.size w w':=by
 have HCC:=keep HC
 clear HC
 have H1:=Lib.hid ((Ok.start w).alloc w.heap.size 35 [.int .u8 3,.int .i64 n,.string s] rfl)
 go_enter Tryz.func53,Tryz.ntmps53
 go_wp2_with fail
 generalize (w.alloc (.cells #[.int .u8 3,.int .i64 n,.string s] 35)) = W2 at H1 ⊢
 refine (HCC.out _).mono ?_
 rintro e w3 ⟨rfl,hb4⟩
 have H5:=Lib.hid (H1.out.below hb4)
 clear hb4 H1
 have F6:=H5.out.sees
 simp only [sees,kBlk,cellsAt,Nat.reduceAdd] at F6
 obtain ⟨⟨z0,c0_0,c0_1,c0_2,-⟩,-⟩:=F6
 go_wp2_with fail
 go_ret
 exact ⟨rfl,H5.out.bel⟩
theorem l8_4y (n : Int) (s : ByteArray) (h2 : (n != 6) = true) (w : World) (HC : ∀ w,Calls Tryz.prog 68 #[.agg #[.int .u8 4,.int .i64 n,.string s]] w fun e w' => e = .returned (.int .i64 0) ∧ Below w.heap.size w w') :
  Calls Tryz.prog 53 #[.agg #[.int .u8 4,.int .i64 n,.string s]] w fun e w' => e = .returned (.bool true) ∧ Below w.heap.size w w':=by
 have HCC:=keep HC
 clear HC
 have H1:=Lib.hid ((Ok.start w).alloc w.heap.size 35 [.int .u8 4,.int .i64 n,.string s] rfl)
 go_enter Tryz.func53,Tryz.ntmps53
 go_wp2_with fail
 generalize (w.alloc (.cells #[.int .u8 4,.int .i64 n,.string s] 35)) = W2 at H1 ⊢
 refine (HCC.out _).mono ?_
 rintro e w3 ⟨rfl,hb4⟩
 have H5:=Lib.hid (H1.out.below hb4)
 clear hb4 H1
 have F6:=H5.out.sees
 simp only [sees,kBlk,cellsAt,Nat.reduceAdd] at F6
 obtain ⟨⟨z0,c0_0,c0_1,c0_2,-⟩,-⟩:=F6
 go_wp2_with fail
 go_ret
 exact ⟨rfl,H5.out.bel⟩
theorem l8_4n (s : ByteArray) (w : World) (HC : ∀ w,Calls Tryz.prog 68 #[.agg #[.int .u8 4,.int .i64 6,.string s]] w fun e w' => e = .returned (.int .i64 0) ∧ Below w.heap.size w w') :
  Calls Tryz.prog 53 #[.agg #[.int .u8 4,.int .i64 6,.string s]] w fun e w' => e = .returned (.bool false) ∧ Below w.heap.size w w':=by
 have HCC:=keep HC
 clear HC
 have H1:=Lib.hid ((Ok.start w).alloc w.heap.size 35 [.int .u8 4,.int .i64 6,.string s] rfl)
 go_enter Tryz.func53,Tryz.ntmps53
 go_wp2_with fail
 generalize (w.alloc (.cells #[.int .u8 4,.int .i64 6,.string s] 35)) = W2 at H1 ⊢
 refine (HCC.out _).mono ?_
 rintro e w3 ⟨rfl,hb4⟩
 have H5:=Lib.hid (H1.out.below hb4)
 clear hb4 H1
 have F6:=H5.out.sees
 simp only [sees,kBlk,cellsAt,Nat.reduceAdd] at F6
 obtain ⟨⟨z0,c0_0,c0_1,c0_2,-⟩,-⟩:=F6
 go_wp2_with fail
 go_ret
 exact ⟨rfl,H5.out.bel⟩
open Classical in
theorem litB_yes {k : Nat} {n : Int} {t : List UInt8} (h : goodV k n t) : litB k n t = true:=decide_eq_true h
open Classical in
theorem litB_no {k : Nat} {n : Int} {t : List UInt8} (h : ¬ goodV k n t) : litB k n t = false:=decide_eq_false h
theorem ref8_LiteralV (k : Nat) (n : Int) (s : ByteArray) (hs : s.size ≤ 4611686018427387904) (hlo : -9223372036854775808 ≤ n) (w : World) :
  Calls Tryz.prog 53 #[.agg #[.int .u8 (k : Nat),.int .i64 n,.string s]] w fun e w' => e = .returned (.bool (litB k n s.data.toList)) ∧ Below w.heap.size w w':=by
 have HV:=fun w => ref5_CheckV k n s hs hlo w
 by_cases hc : cellV k n s.data.toList
 rotate_left
 ·rw [litB_no (fun h => hc (good_cell.1 h).1)]
  rw [valE_no hc] at HV
  exact l8_bad k n s w HV
 rw [valE_yes hc] at HV
 have hh:=hc
 rcases hh with ⟨rfl,-⟩ | ⟨rfl,-⟩ | ⟨rfl,-⟩ | ⟨rfl,-⟩ | ⟨rfl,-⟩
 ·rw [litB_no (fun h => (good_cell.1 h).2.1 rfl)]; exact l8_0 n s w HV
 ·by_cases h0 : 0 ≤ n
  ·rw [litB_yes (good_cell.2 ⟨hc,by decide,fun _ => h0,(fun h => absurd h (by decide))⟩)]; exact l8_1y n s h0 w HV
  ·rw [litB_no (fun h => h0 ((good_cell.1 h).2.2.1 rfl))]; exact l8_1n n s (by simp; omega) w HV
 ·rw [litB_yes (good_cell.2 ⟨hc,by decide,(fun h => absurd h (by decide)),(fun h => absurd h (by decide))⟩)]; exact l8_2 n s w HV
 ·rw [litB_yes (good_cell.2 ⟨hc,by decide,(fun h => absurd h (by decide)),(fun h => absurd h (by decide))⟩)]; exact l8_3 n s w HV
 ·by_cases h6 : n = 6
  ·subst h6
   rw [litB_no (fun h => (good_cell.1 h).2.2.2 rfl rfl)]; exact l8_4n s w HV
  ·rw [litB_yes (good_cell.2 ⟨hc,by decide,(fun h => absurd h (by decide)),fun _ => h6⟩)]; exact l8_4y n s (by rw [bne,beq_eq_false_iff_ne.2 h6]; rfl) w HV
end Go.Proofs.YtnbemkiplnanlaaGreatDoor
namespace Go.Proofs.YtnbemkiplnanlaaGreatDoor
set_option maxRecDepth 100000
set_option maxHeartbeats 4000000
open Go.RowKit
def wordB (n : Int) : List UInt8:=if n = 1 then trueB else falseB
theorem ref5_word (n : Int) (h : n = 0 ∨ n = 1) (w : World) :
  Calls Tryz.prog 148 #[.int .i64 n] w fun e w' => e = .returned (.string ⟨(wordB n).toArray⟩) ∧ w' = w:=by
 rcases h with rfl | rfl
 ·go_enter Tryz.func148,Tryz.ntmps148
  go_wp2_with fail
  go_ret
  exact ⟨rfl,rfl⟩
 ·go_enter Tryz.func148,Tryz.ntmps148
  go_wp2_with fail
  go_ret
  exact ⟨rfl,rfl⟩
theorem bool_ok {n : Int} (h : n = 0 ∨ n = 1) : valE 2 n [] = 0:=valE_yes (.inr (.inr (.inl ⟨rfl,rfl,h⟩)))
theorem ref5_ToTextB (n : Int) (hn : n = 0 ∨ n = 1) (w : World) :
  Calls Tryz.prog 95 #[.agg #[.int .u8 2,.int .i64 n,.string ⟨#[]⟩]] w fun e w' => e = .returned (.agg #[.int .u8 3,.int .i64 0,.string ⟨(wordB n).toArray⟩]) ∧ Below w.heap.size w w':=by
 have HN:=keep hn
 clear hn
 have H1:=Lib.hid (((Ok.start w).alloc w.heap.size 35 [.int .u8 2,.int .i64 n,.string ⟨#[]⟩] rfl).var (w.heap.size + 1) 35 [.int .u8 0,.int .i64 0,.string ⟨#[]⟩] (by simp))
 go_enter Tryz.func95,Tryz.ntmps95
 go_wp2_with fail
 generalize ((w.alloc (.cells #[.int .u8 2,.int .i64 n,.string ⟨#[]⟩] 35)).alloc (.cells #[.int .u8 0,.int .i64 0,.string ⟨#[]⟩] 35)) = W2 at H1 ⊢
 refine (ref5_CheckV 2 n ⟨#[]⟩ (by decide) (by rcases HN.out with rfl | rfl <;> decide) _).mono ?_
 rintro e w3 ⟨rfl,hb4⟩
 rw [show valE 2 n (⟨#[]⟩ : ByteArray).data.toList = 0 from bool_ok HN.out]
 have H5:=Lib.hid (H1.out.below hb4)
 clear hb4 H1
 have F6:=H5.out.sees
 simp only [sees,kBlk,kVar,cellsAt,Nat.reduceAdd] at F6
 obtain ⟨⟨⟨z0,fz0⟩,c0_0,c0_1,c0_2,-⟩,⟨z1,c1_0,c1_1,c1_2,-⟩,-⟩:=F6
 go_wp2_with fail
 refine (ref5_word n HN.out _).mono ?_
 rintro e wz ⟨rfl,hwz⟩
 obtain rfl : w3 = wz:=hwz.symm
 go_wp2_with fail
 have hK:=H5.out.get (kVar (w.heap.size + 1) 35 [.int .u8 0,.int .i64 0,.string ⟨#[]⟩]) (by simp)
 have hB:=H5.out.bel
 have hE:=((((show Blk w3 (w.heap.size + 1) 35 _ from hK).set_ 0 (.int .u8 3)).set_ 1 (.int .i64 0)).set_ 2 (.string ⟨(wordB n).toArray⟩))
 have r0:=hE.cell 0
 have r1:=hE.cell 1
 have r2:=hE.cell 2
 simp at r0 r1 r2
 exact bodyPost_ret (v:=.agg #[.int .u8 3,.int .i64 0,.string ⟨(wordB n).toArray⟩]) (by simp [results,Tryz.results95,go_sem,r0,r1,r2]) rfl ⟨rfl,(((hB.setCell (by simp) _).setCell (by simp) _).setCell (by simp) _)⟩
theorem ref5_ShowB (n : Int) (hn : n = 0 ∨ n = 1) (w : World) :
  Calls Tryz.prog 56 #[.agg #[.int .u8 2,.int .i64 n,.string ⟨#[]⟩]] w fun e w' => e = .returned (.string ⟨(wordB n).toArray⟩) ∧ Below w.heap.size w w':=by
 have HN:=keep hn
 clear hn
 have H1:=Lib.hid ((Ok.start w).alloc w.heap.size 35 [.int .u8 2,.int .i64 n,.string ⟨#[]⟩] rfl)
 go_enter Tryz.func56,Tryz.ntmps56
 go_wp2_with fail
 generalize (w.alloc (.cells #[.int .u8 2,.int .i64 n,.string ⟨#[]⟩] 35)) = W2 at H1 ⊢
 refine wp_region_held_drew (S:=fun W => Ok w [kBlk (w.heap.size) 35 [.int .u8 2,.int .i64 n,.string ⟨#[]⟩]] W) (by kernel_rfl) H1.out.drew (fun hHeld => ?_)
 refine wt3 (i:=0) rfl (by assumption) ?_
 refine wal (i:=1) rfl (fun K hK => ?_)
 go_simp
 refine (ref5_Fail7 _).mono ?_
 rintro e w4 ⟨rfl,hb5⟩
 go_wp2_with fail
 refine hK.out _ _ (hHeld.below hb5) (fun hHeld => ?_)
 clear hK K
 try simp only [Act.put,wp1,wp2,wp3,wp4,wp5,wp6]
 refine wt3 (i:=2) rfl (by assumption) ?_
 refine wpAnyH_done (by kernel_rfl) ?_ _
 clear H1
 have H6:=Lib.hid hHeld
 clear hHeld
 have F7:=H6.out.sees
 simp only [sees,kBlk,cellsAt,Nat.reduceAdd] at F7
 obtain ⟨⟨z0,c0_0,c0_1,c0_2,-⟩,-⟩:=F7
 go_wp2_with fail
 refine (ref5_CheckV 2 n ⟨#[]⟩ (by decide) (by rcases HN.out with rfl | rfl <;> decide) _).mono ?_
 rintro e w8 ⟨rfl,hb9⟩
 rw [show valE 2 n (⟨#[]⟩ : ByteArray).data.toList = 0 from bool_ok HN.out]
 clear z0 c0_0 c0_1 c0_2
 have H10:=Lib.hid (H6.out.below hb9)
 clear hb9 H6
 have F11:=H10.out.sees
 simp only [sees,kBlk,cellsAt,Nat.reduceAdd] at F11
 obtain ⟨⟨z0,c0_0,c0_1,c0_2,-⟩,-⟩:=F11
 go_wp2_with fail
 refine (ref5_ToTextB n HN.out _).mono ?_
 rintro e w12 ⟨rfl,hb13⟩
 clear z0 c0_0 c0_1 c0_2
 have H14:=Lib.hid (H10.out.below hb13)
 clear hb13 H10
 have F15:=H14.out.sees
 simp only [sees,kBlk,cellsAt,Nat.reduceAdd] at F15
 obtain ⟨⟨z0,c0_0,c0_1,c0_2,-⟩,-⟩:=F15
 obtain ⟨X,hX⟩ : ∃ X : ByteArray,X = ⟨(wordB n).toArray⟩:=⟨_,rfl⟩
 rw [← hX]
 have HX:=keep hX
 clear hX
 have hfi : (Instr.field 35 (.agg #[.int .u8 3,.int .i64 0,.string X]) 2).run Tryz.prog w12 = .ok (.string X) w12:=by kernel_rfl
 go_wp2_with fail
 go_ret
 exact ⟨by rw [← HX.out]; rfl,H14.out.bel⟩
theorem r10_bad (k : Nat) (n : Int) (s : ByteArray) (hs : s.size ≤ 4611686018427387904) (hlo : -9223372036854775808 ≤ n) (hg : litB k n s.data.toList = false) (w : World) :
  Calls Tryz.prog 23 #[.agg #[.int .u8 (k : Nat),.int .i64 n,.string s]] w fun e w' => e = .returned (.tuple #[.string ⟨#[]⟩,.int .i64 2]) ∧ Below w.heap.size w w':=by
 have HS:=keep hs
 have HLO:=keep hlo
 have HG:=keep hg
 clear hs hlo hg
 have H1:=Lib.hid ((Ok.start w).alloc w.heap.size 35 [.int .u8 (k : Nat),.int .i64 n,.string s] rfl)
 go_enter Tryz.func23,Tryz.ntmps23
 go_wp2_with fail
 generalize (w.alloc (.cells #[.int .u8 (k : Nat),.int .i64 n,.string s] 35)) = W2 at H1 ⊢
 refine (ref8_LiteralV k n s HS.out HLO.out _).mono ?_
 rintro e w3 ⟨rfl,hb4⟩
 rw [HG.out]
 have H5:=Lib.hid (H1.out.below hb4)
 clear hb4 H1
 have F6:=H5.out.sees
 simp only [sees,kBlk,cellsAt,Nat.reduceAdd] at F6
 obtain ⟨⟨z0,c0_0,c0_1,c0_2,-⟩,-⟩:=F6
 go_wp2_with fail
 exact bodyPost_ret (v:=.tuple #[.string ⟨#[]⟩,.int .i64 2]) (by simp [results,Tryz.results23,go_sem]) rfl ⟨rfl,H5.out.bel⟩
theorem r10_num (n : Int) (h0 : 0 ≤ n) (h1 : n ≤ 9223372036854775807) (w : World) :
  Calls Tryz.prog 23 #[.agg #[.int .u8 1,.int .i64 n,.string ⟨#[]⟩]] w fun e w' => e = .returned (.tuple #[.string ⟨(decS n).toArray⟩,.int .i64 0]) ∧ Below w.heap.size w w':=by
 have HS:=keep (show (⟨#[]⟩ : ByteArray).size ≤ 4611686018427387904 by decide)
 have HLO:=keep (show -9223372036854775808 ≤ n by omega)
 have HHI:=keep h1
 have HG:=keep (show litB 1 n (⟨#[]⟩ : ByteArray).data.toList = true from litB_yes (.inl ⟨rfl,h0,rfl⟩))
 clear h0 h1
 have H1:=Lib.hid ((Ok.start w).alloc w.heap.size 35 [.int .u8 1,.int .i64 n,.string ⟨#[]⟩] rfl)
 go_enter Tryz.func23,Tryz.ntmps23
 go_wp2_with fail
 generalize (w.alloc (.cells #[.int .u8 1,.int .i64 n,.string ⟨#[]⟩] 35)) = W2 at H1 ⊢
 refine (ref8_LiteralV 1 n (⟨#[]⟩ : ByteArray) HS.out HLO.out _).mono ?_
 rintro e w3 ⟨rfl,hb4⟩
 rw [HG.out]
 have H5:=Lib.hid (H1.out.below hb4)
 clear hb4 H1
 have F6:=H5.out.sees
 simp only [sees,kBlk,cellsAt,Nat.reduceAdd] at F6
 obtain ⟨⟨z0,c0_0,c0_1,c0_2,-⟩,-⟩:=F6
 go_wp2_with fail
 refine (ref1_Format n _ HLO.out HHI.out).mono ?_
 rintro e w7 ⟨rfl,hb8⟩
 clear z0 c0_0 c0_1 c0_2
 have H9:=Lib.hid (H5.out.below hb8)
 clear hb8 H5
 have F10:=H9.out.sees
 simp only [sees,kBlk,cellsAt,Nat.reduceAdd] at F10
 obtain ⟨⟨z0,c0_0,c0_1,c0_2,-⟩,-⟩:=F10
 go_wp2_with fail
 exact bodyPost_ret (v:=.tuple #[.string ⟨(decS n).toArray⟩,.int .i64 0]) (by simp [results,Tryz.results23,go_sem]) rfl ⟨rfl,H9.out.bel⟩
theorem r10_bool (n : Int) (hn : n = 0 ∨ n = 1) (w : World) :
  Calls Tryz.prog 23 #[.agg #[.int .u8 2,.int .i64 n,.string ⟨#[]⟩]] w fun e w' => e = .returned (.tuple #[.string ⟨(wordB n).toArray⟩,.int .i64 0]) ∧ Below w.heap.size w w':=by
 have HS:=keep (show (⟨#[]⟩ : ByteArray).size ≤ 4611686018427387904 by decide)
 have HLO:=keep (show -9223372036854775808 ≤ n by omega)
 have HN:=keep hn
 have HG:=keep (show litB 2 n (⟨#[]⟩ : ByteArray).data.toList = true from litB_yes (.inr (.inl ⟨rfl,hn,rfl⟩)))
 clear hn
 have H1:=Lib.hid ((Ok.start w).alloc w.heap.size 35 [.int .u8 2,.int .i64 n,.string ⟨#[]⟩] rfl)
 go_enter Tryz.func23,Tryz.ntmps23
 go_wp2_with fail
 generalize (w.alloc (.cells #[.int .u8 2,.int .i64 n,.string ⟨#[]⟩] 35)) = W2 at H1 ⊢
 refine (ref8_LiteralV 2 n (⟨#[]⟩ : ByteArray) HS.out HLO.out _).mono ?_
 rintro e w3 ⟨rfl,hb4⟩
 rw [HG.out]
 have H5:=Lib.hid (H1.out.below hb4)
 clear hb4 H1
 have F6:=H5.out.sees
 simp only [sees,kBlk,cellsAt,Nat.reduceAdd] at F6
 obtain ⟨⟨z0,c0_0,c0_1,c0_2,-⟩,-⟩:=F6
 go_wp2_with fail
 refine (ref5_ShowB n HN.out _).mono ?_
 rintro e w7 ⟨rfl,hb8⟩
 clear z0 c0_0 c0_1 c0_2
 have H9:=Lib.hid (H5.out.below hb8)
 clear hb8 H5
 have F10:=H9.out.sees
 simp only [sees,kBlk,cellsAt,Nat.reduceAdd] at F10
 obtain ⟨⟨z0,c0_0,c0_1,c0_2,-⟩,-⟩:=F10
 go_wp2_with fail
 exact bodyPost_ret (v:=.tuple #[.string ⟨(wordB n).toArray⟩,.int .i64 0]) (by simp [results,Tryz.results23,go_sem]) rfl ⟨rfl,H9.out.bel⟩
theorem r10_txt (s : ByteArray) (hs : s.size ≤ 4611686018427387904) (hc : checkT s.data.toList = 0) (w : World) :
  Calls Tryz.prog 23 #[.agg #[.int .u8 3,.int .i64 0,.string s]] w fun e w' => e = .returned (.tuple #[.string ⟨(quoteS s.data.toList).toArray⟩,.int .i64 0]) ∧ Below w.heap.size w w':=by
 have HS:=keep hs
 have HLO:=keep (show (-9223372036854775808 : Int) ≤ 0 by decide)
 have HC:=keep hc
 have HQ:=keep (show quoteT s.data.toList = quoteS s.data.toList from if_pos hc)
 have HG:=keep (show litB 3 0 s.data.toList = true from litB_yes (.inr (.inr (.inl ⟨rfl,rfl,(chk_iff _).1 hc⟩))))
 clear hs hc
 have H1:=Lib.hid ((Ok.start w).alloc w.heap.size 35 [.int .u8 3,.int .i64 0,.string s] rfl)
 go_enter Tryz.func23,Tryz.ntmps23
 go_wp2_with fail
 generalize (w.alloc (.cells #[.int .u8 3,.int .i64 0,.string s] 35)) = W2 at H1 ⊢
 refine (ref8_LiteralV 3 0 s HS.out HLO.out _).mono ?_
 rintro e w3 ⟨rfl,hb4⟩
 rw [HG.out]
 have H5:=Lib.hid (H1.out.below hb4)
 clear hb4 H1
 have F6:=H5.out.sees
 simp only [sees,kBlk,cellsAt,Nat.reduceAdd] at F6
 obtain ⟨⟨z0,c0_0,c0_1,c0_2,-⟩,-⟩:=F6
 go_wp2_with fail
 refine (ref4_Quote s _ HS.out).mono ?_
 rintro e w7 ⟨rfl,hb8⟩
 rw [HC.out,HQ.out]
 have H9:=Lib.hid (H5.out.below hb8)
 clear z0 c0_0 c0_1 c0_2
 clear hb8 H5
 go_wp2_with fail
 exact bodyPost_ret (v:=.tuple #[.string ⟨(quoteS s.data.toList).toArray⟩,.int .i64 0]) (by simp [results,Tryz.results23,go_sem]) rfl ⟨rfl,H9.out.bel⟩
theorem r10_err (n : Int) (h1 : 1 ≤ n) (h5 : n ≤ 5) (w : World) :
  Calls Tryz.prog 23 #[.agg #[.int .u8 4,.int .i64 n,.string ⟨#[]⟩]] w fun e w' => e = .returned (.tuple #[.string ⟨(errT n).toArray⟩,.int .i64 0]) ∧ Below w.heap.size w w':=by
 have HS:=keep (show (⟨#[]⟩ : ByteArray).size ≤ 4611686018427387904 by decide)
 have HLO:=keep (show -9223372036854775808 ≤ n by omega)
 have HG:=keep (show litB 4 n (⟨#[]⟩ : ByteArray).data.toList = true from litB_yes (.inr (.inr (.inr ⟨rfl,⟨h1,h5⟩,rfl⟩))))
 clear h1 h5
 have H1:=Lib.hid ((Ok.start w).alloc w.heap.size 35 [.int .u8 4,.int .i64 n,.string ⟨#[]⟩] rfl)
 go_enter Tryz.func23,Tryz.ntmps23
 go_wp2_with fail
 generalize (w.alloc (.cells #[.int .u8 4,.int .i64 n,.string ⟨#[]⟩] 35)) = W2 at H1 ⊢
 refine (ref8_LiteralV 4 n (⟨#[]⟩ : ByteArray) HS.out HLO.out _).mono ?_
 rintro e w3 ⟨rfl,hb4⟩
 rw [HG.out]
 have H5:=Lib.hid (H1.out.below hb4)
 clear hb4 H1
 have F6:=H5.out.sees
 simp only [sees,kBlk,cellsAt,Nat.reduceAdd] at F6
 obtain ⟨⟨z0,c0_0,c0_1,c0_2,-⟩,-⟩:=F6
 go_wp2_with fail
 refine (ref5_Show n _).mono ?_
 rintro e w7 ⟨rfl,hb8⟩
 clear z0 c0_0 c0_1 c0_2
 have H9:=Lib.hid (H5.out.below hb8)
 clear hb8 H5
 have F10:=H9.out.sees
 simp only [sees,kBlk,cellsAt,Nat.reduceAdd] at F10
 obtain ⟨⟨z0,c0_0,c0_1,c0_2,-⟩,-⟩:=F10
 go_wp2_with fail
 exact bodyPost_ret (v:=.tuple #[.string ⟨(errT n).toArray⟩,.int .i64 0]) (by simp [results,Tryz.results23,go_sem]) rfl ⟨rfl,H9.out.bel⟩
theorem tkT_num (n : Int) : tkT (tkV ⟨1,1,n,[],R4.zero,0,0,0⟩) = decS n:=rfl
theorem tkT_bool (n : Int) : tkT (tkV ⟨1,2,n,[],R4.zero,0,0,0⟩) = wordB n:=rfl
theorem tkT_txt (t : List UInt8) : tkT (tkV ⟨1,3,0,t,R4.zero,0,0,0⟩) = quoteS t:=rfl
theorem tkT_err (n : Int) (h1 : 1 ≤ n) (h5 : n ≤ 5) : tkT (tkV ⟨1,4,n,[],R4.zero,0,0,0⟩) = errT n:=by
 rcases (show n = 1 ∨ n = 2 ∨ n = 3 ∨ n = 4 ∨ n = 5 by omega) with rfl | rfl | rfl | rfl | rfl <;> rfl
theorem str_of {s : ByteArray} (h : s.data.toList = []) : s = ⟨#[]⟩:=by
 rcases str_cases s with h1 | ⟨-,h1⟩
 ·exact h1
 ·exact absurd h h1
theorem ref10_Literal (k : Nat) (n : Int) (s : ByteArray) (hs : s.size ≤ 4611686018427387904) (hlo : -9223372036854775808 ≤ n) (hhi : n ≤ 9223372036854775807) (w : World) :
  Calls Tryz.prog 23 #[.agg #[.int .u8 (k : Nat),.int .i64 n,.string s]] w fun e w' => e = .returned (.tuple #[.string ⟨(litS k n s.data.toList).1.toArray⟩,.int .i64 (litS k n s.data.toList).2]) ∧ Below w.heap.size w w':=by
 by_cases hg : goodV k n s.data.toList
 ·rw [lit_yes hg]
  rcases hg with ⟨rfl,h0,ht⟩ | ⟨rfl,h0,ht⟩ | ⟨rfl,rfl,h1,hp⟩ | ⟨rfl,⟨h1,h5⟩,ht⟩
  ·rw [ht,str_of ht,tkT_num]; exact r10_num n h0 hhi w
  ·rw [ht,str_of ht,tkT_bool]; exact r10_bool n h0 w
  ·rw [tkT_txt]; exact r10_txt s hs ((chk_iff _).2 ⟨h1,hp⟩) w
  ·rw [ht,str_of ht,tkT_err n h1 h5]; exact r10_err n h1 h5 w
 ·rw [lit_no hg]
  exact r10_bad k n s hs hlo (litB_no hg) w
end Go.Proofs.YtnbemkiplnanlaaGreatDoor
namespace Go.Proofs.YtnbemkiplnanlaaGreatDoor
set_option maxRecDepth 100000
set_option maxHeartbeats 4000000
open Go.RowKit Go.ChangeShapes Go.WideShapes Go.ChangeAt
theorem law_ShowLiterals (k : Nat) (n : Int) (s : ByteArray) (w : World) (hlo : -9223372036854775808 ≤ n) (hhi : n ≤ 9223372036854775807) (he : WEnv w) :
  Calls Tryz.prog 4 #[.agg #[.int .u8 (k : Nat),.int .i64 n,.string s]] w fun e w' => e = .returned (.bool true) ∧ Below w.heap.size w w':=by
 have HE:=keep he
 have HLO:=keep hlo
 have HUP:=keep hhi
 have HCX:=keep (cut300a s _ rfl)
 have HCS:=keep (cut300 s).2
 have hx2:=(cut300 s).2
 clear he hlo hhi
 have H1:=Lib.hid ((Ok.start w).var w.heap.size 35 [.int .u8 (k : Nat),.int .i64 n,.string s] rfl)
 go_enter Tryz.func4,Tryz.ntmps4
 go_upto_region 1 with fail
 generalize (w.alloc (.cells #[.int .u8 (k : Nat),.int .i64 n,.string s] 35)) = W2 at H1 ⊢
 have F3:=H1.out.sees
 simp only [sees,kVar,cellsAt,Nat.reduceAdd] at F3
 obtain ⟨⟨⟨z0,fz0⟩,c0_0,c0_1,c0_2,-⟩,-⟩:=F3
 go_wp2_with fail
 have H9:=Lib.hid (H1.out.set_ (i:=2) (u:=.string (s.extract 0 (min (s.size : Int) 300).toNat)) (Nat.le_refl _) (fun x hx => absurd hx (by simp)))
 generalize W2.setCell ⟨w.heap.size,2,none⟩ (.string (s.extract 0 (min (s.size : Int) 300).toNat)) = W9 at H9 ⊢
 rw [HCX.out] at H9 hx2 ⊢
 rw [HCX.out] at HCS
 clear H1 HCX
 obtain ⟨tt,htt⟩ : ∃ tt,s.data.toList.take 300 = tt:=⟨_,rfl⟩
 rw [htt] at H9 HCS hx2 ⊢
 have HTL:=keep (show tt.length ≤ 300 by rw [← htt,List.length_take]; omega)
 clear htt hx2 z0 fz0 c0_0 c0_1 c0_2
 refine (show_Literal k n tt (by have:=HTL.out; omega) HUP.out W9 (HE.out.below H9.out.bel)).mono ?_
 rintro e w10 ⟨rfl,hb⟩
 have H10:=Lib.hid (H9.out.below hb)
 clear hb H9
 have F10:=H10.out.sees
 simp only [List.set_cons_succ,List.set_cons_zero,sees,kVar,cellsAt,Nat.reduceAdd] at F10
 obtain ⟨⟨⟨z0,fz0⟩,c0_0,c0_1,c0_2,-⟩,-⟩:=F10
 obtain ⟨Y,hY⟩ : ∃ Y : ByteArray,Y = ⟨(litS k n tt).1.toArray⟩:=⟨_,rfl⟩
 rw [← hY]
 have HY:=keep hY
 obtain ⟨E,hEE⟩ : ∃ E,(litS k n tt).2 = E:=⟨_,rfl⟩
 rw [hEE]
 have HEE:=keep hEE
 clear hY hEE
 go_wp2_with fail
 refine (ref10_Literal k n ⟨tt.toArray⟩ (by have:=HCS.out; omega) HLO.out HUP.out w10).mono ?_
 rintro e w11 ⟨rfl,hb⟩
 rw [data_list tt,← HY.out,HEE.out]
 have H11:=Lib.hid (H10.out.below hb)
 clear hb H10 z0 fz0 c0_0 c0_1 c0_2
 go_wp2_with fail
 refine (law_awake10 w11 (HE.out.below H11.out.bel)).mono ?_
 rintro e w12 ⟨rfl,hb⟩
 have H12:=Lib.hid (H11.out.below hb)
 clear hb H11
 go_wp2_with fail
 go_ret
 exact ⟨rfl,H12.out.bel⟩
theorem threeV {cs : List Value} (h : cs.length = 3) : ∃ v0 v1 v2,cs = [v0,v1,v2]:=by
 match cs,h with
 | [v0,v1,v2],_ => exact ⟨_,_,_,rfl⟩
theorem val_given {H : Type} {enc : TypeId × Value → H} {w : World} {base : Nat} {spare : Nat → Bool} {held : Bool} {r : Reach} {b0 : Nat} {v : Value} {d : DataW H} {p : List MemPlace}
  (hv : Value.okWide Tryz.prog w r b0 35 v) (h : DataW.Trod enc Tryz.prog w base spare held 35 v d p) : ∃ (k : Nat) (n : Int) (s : ByteArray),v = .agg #[.int .u8 (k : Nat),.int .i64 n,.string s] ∧ -9223372036854775808 ≤ n ∧ n ≤ 9223372036854775807:=by
 obtain ⟨cs,rfl,-⟩:=okWide_struct Tryz.underlying35 hv
 obtain ⟨fuel,ht⟩:=h
 have hok : OkL [.int .u8,.int .i64,.str] cs.toList:=flat_open fl_val ht
 obtain ⟨l⟩:=cs
 obtain ⟨v0,v1,v2,rfl⟩:=threeV (show l.length = 3 from hok.len)
 obtain ⟨⟨n0,rfl,w0⟩,⟨n1,rfl,w1⟩,⟨s,rfl,-⟩,-⟩:=hok
 have h0:=wf_u8 w0
 have h1:=wf_i64 w1
 exact ⟨n0.toNat,n1,s,by rw [Int.toNat_of_nonneg h0.1],h1.1,h1.2⟩
theorem ShowLiterals_walk (k : Nat) (n : Int) (s : ByteArray) (w : World) (hlo : -9223372036854775808 ≤ n) (hhi : n ≤ 9223372036854775807) (hL : laidMetH Tryz.prog Rows.showLiteralsRow.laid w) (hS : w.ShapedOpen Tryz.prog) :
  Calls Tryz.prog 4 #[.agg #[.int .u8 (k : Nat),.int .i64 n,.string s]] w fun e w' => e = .returned (.bool true) ∧ Below w.heap.size w w' :=
 law_ShowLiterals k n s w hlo hhi (env10_of hL hS (by kernel_rfl) (by kernel_rfl))
end Go.Proofs.YtnbemkiplnanlaaGreatDoor
