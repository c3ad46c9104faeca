/- The contract of tree.Function. The contract of tree.names and tree.Function. The contracts of what parse.Formula defers. -/
import Derived.Test.YtnbemkiplnanlaaGreatDoorMParA
import Derived.Test.YtnbemkiplnanlaaGreatDoorMParB
import Derived.Defers
import Derived.Recover
namespace Go.Proofs.YtnbemkiplnanlaaGreatDoor
set_option maxRecDepth 100000
open Go.RowKit
def idxS (xs : List (List UInt8)) (x : List UInt8) : Int:=match xs.findIdx? (· == x) with
 | some i => (i : Int)
 | none => -1
theorem idxS_at (xs : List (List UInt8)) (x : List UInt8) (k : Nat) (hk : k < xs.length) (hb : ∀ y ∈ xs.take k,y ≠ x) (h : xs[k] = x) : idxS xs x = (k : Int):=by
 have hf : xs.findIdx? (· == x) = some k:=by
  rw [List.findIdx?_eq_some_iff_getElem]
  refine ⟨hk,by simpa using h,fun j hj => ?_⟩
  have:=hb xs[j] (by rw [List.mem_take_iff_getElem]; exact ⟨j,by omega,rfl⟩)
  simpa using this
 unfold idxS
 rw [hf]
theorem idxS_no (xs : List (List UInt8)) (x : List UInt8) (hb : ∀ y ∈ xs,y ≠ x) : idxS xs x = -1:=by
 have hf : xs.findIdx? (· == x) = none:=by
  rw [List.findIdx?_eq_none_iff]
  intro y hy
  simpa using hb y hy
 unfold idxS
 rw [hf]
theorem index_strs (xs : List (List UInt8)) (x : List UInt8) (b c : Nat) (w : World) (hl : xs.length ≤ 1000) (hc : ∀ i (h : i < xs.length),w.cell? ⟨b,i,none⟩ = some (.string ⟨xs[i].toArray⟩)) :
  Calls Tryz.prog 267 #[.slice (some ⟨b,0,none⟩) xs.length c,.string ⟨x.toArray⟩] w fun e w' => e = .returned (.int .i64 (idxS xs x)) ∧ w' = w:=by
 have HC:=keep hc
 clear hc
 obtain ⟨n,hn⟩ : ∃ n,xs.length = n:=⟨_,rfl⟩
 rw [hn] at hl ⊢
 have HN:=keep hn
 clear hn
 go_enter Tryz.func267,Tryz.ntmps267
 go_wp2_with fail
 go_loopw [8] (fun iv wr => ∃ k : Nat,k ≤ n ∧ iv = .int .i64 (k : Int) ∧ Keep (∀ y ∈ xs.take k,y ≠ x) ∧ wr = w) (fun iv _ => n - (intOf iv).toNat)
 case atStart => exact ⟨0,Nat.zero_le _,rfl,keep (by simp),rfl⟩
 case round =>
  obtain ⟨k,hk,rfl,HK,hwr⟩:=hrel
  obtain rfl : w = wr:=hwr.symm
  by_cases hlt : (k : Int) < n
  ·have hkn : k < xs.length:=by rw [HN.out]; omega
   have HKN:=keep hkn
   clear hkn
   have hcell:=HC.out k HKN.out
   obtain ⟨y,hy⟩ : ∃ y,xs[k]'HKN.out = y:=⟨_,rfl⟩
   rw [hy] at hcell
   have HY:=keep hy
   clear hy
   by_cases hxy : y = x
   ·subst hxy
    have HI:=keep (idxS_at xs y k HKN.out HK.out HY.out)
    go_wp2_with fail
    go_ret
    exact ⟨by rw [HI.out]; rfl,rfl⟩
   ·have HNE:=keep hxy
    have hb : (x == y) = false:=by simpa using fun e => hxy e.symm
    clear hxy
    go_wp2_with fail
    go_roundw
    case rel =>
     refine ⟨k + 1,by omega,by go_num,keep fun z hz => ?_,by first | trivial | rfl⟩
     rw [List.take_succ_eq_append_getElem HKN.out] at hz
     rcases List.mem_append.1 hz with hz | hz
     ·exact HK.out z hz
     ·simp at hz
      rw [hz]
      rw [HY.out]
      exact HNE.out
    case measure => simp [intOf]; omega
  ·have hke : k = n:=by omega
   have HI:=keep (idxS_no xs x fun y hy => HK.out y (by rw [List.take_of_length_le (by rw [HN.out]; omega)]; exact hy))
   clear hke
   go_wp2_with fail
   go_ret
   exact ⟨by rw [HI.out]; rfl,rfl⟩
end Go.Proofs.YtnbemkiplnanlaaGreatDoor
namespace Go.Proofs.YtnbemkiplnanlaaGreatDoor
set_option maxRecDepth 100000
set_option maxHeartbeats 8000000
open Go.RowKit
def namesV : List Value:=fnNames.map fun x => .string ⟨x.toArray⟩
theorem names_one : (namesV.toArray.all (·.oneCell')) = true:=by kernel_rfl
def zerosV : Array Value:=#[.string ⟨#[]⟩,.string ⟨#[]⟩,.string ⟨#[]⟩,.string ⟨#[]⟩,.string ⟨#[]⟩,.string ⟨#[]⟩,.string ⟨#[]⟩,.string ⟨#[]⟩,.string ⟨#[]⟩,.string ⟨#[]⟩,.string ⟨#[]⟩,.string ⟨#[]⟩,.string ⟨#[]⟩,.string ⟨#[]⟩,.string ⟨#[]⟩,.string ⟨#[]⟩,.string ⟨#[]⟩,.string ⟨#[]⟩,.string ⟨#[]⟩,.string ⟨#[]⟩,.string ⟨#[]⟩,.string ⟨#[]⟩,.string ⟨#[]⟩,.string ⟨#[]⟩,.string ⟨#[]⟩,.string ⟨#[]⟩,.string ⟨#[]⟩,.string ⟨#[]⟩,.string ⟨#[]⟩,.string ⟨#[]⟩,.string ⟨#[]⟩,.string ⟨#[]⟩,.string ⟨#[]⟩,.string ⟨#[]⟩,.string ⟨#[]⟩,.string ⟨#[]⟩,.string ⟨#[]⟩,.string ⟨#[]⟩,.string ⟨#[]⟩,.string ⟨#[]⟩,.string ⟨#[]⟩,.string ⟨#[]⟩,.string ⟨#[]⟩,.string ⟨#[]⟩,.string ⟨#[]⟩,.string ⟨#[]⟩,.string ⟨#[]⟩,.string ⟨#[]⟩,.string ⟨#[]⟩,.string ⟨#[]⟩]
theorem zeros_size : zerosV.size = namesV.toArray.size:=by kernel_rfl
theorem names_info : (Tryz.prog.info? 209).map (·.size) = some namesV.toArray.size:=by kernel_rfl
theorem row_set (w : World) (t : TypeId) (old V : Array Value) : ((w.alloc (.cells old t)).setRow w.heap.size V).heap[w.heap.size]? = some (.cells V t (0,0)):=by
 exact setRow_heap (w.alloc (.cells old t)) w.heap.size old V t (0,0) (heap_alloc_new w _)
theorem row_below (w : World) (t : TypeId) (old V : Array Value) : Below w.heap.size w ((w.alloc (.cells old t)).setRow w.heap.size V) :=
 ⟨rfl,rfl,rfl,by simp,fun i hi => by
  unfold World.setRow
  simp only [Array.getElem?_modify]
  rw [if_neg (by omega)]
  exact Below.heap_alloc w _ i hi⟩
theorem tree_names (w : World) :
  Calls Tryz.prog 189 #[] w fun e w' => e = .returned (.agg namesV.toArray) ∧ Below w.heap.size w w':=by
 go_enter Tryz.func189,Tryz.ntmps189
 go_upto_region 1 with fail
 change Code.wp _ _ _ _ (w.alloc (.cells zerosV _))
 go_wp2_with (first | (refine wpList_build rfl _ _ rfl (by kernel_rfl) ?_) | (refine wpList_store_row rfl _ _ _ rfl w.heap.size namesV.toArray rfl (by kernel_rfl) 209 zerosV (heap_alloc_new _ _) names_info zeros_size names_one ?_))
 refine bodyPost_ret (v:=.agg namesV.toArray) ?_ rfl ⟨rfl,row_below _ _ _ _⟩
 exact results_cell_row rfl _ _ w.heap.size 209 namesV.toArray (0,0) _ rfl (row_set _ _ _ _) Tryz.underlying209 rfl names_info
theorem fn_idx (x : List UInt8) : idxS fnNames x = if fnS x = 0 then -1 else ((fnS x : Nat) : Int) - 1:=by
 unfold idxS fnS
 cases fnNames.findIdx? (· == x) with
 | none => rfl
 | some i => simp
theorem fn_le (x : List UInt8) : fnS x ≤ 50:=by
 unfold fnS
 split
 ·rename_i i h
  rw [List.findIdx?_eq_some_iff_getElem] at h
  obtain ⟨h1,_⟩:=h
  have : fnNames.length = 50:=rfl
  omega
 ·omega
def fnE (x : List UInt8) : Int:=if fnS x = 0 then 6 else 0
theorem tree_Function (x : List UInt8) (w : World) :
  Calls Tryz.prog 257 #[.string ⟨x.toArray⟩] w fun e w' => e = .returned (.tuple #[.int .u8 (fnS x : Nat),.int .i64 (fnE x)]) ∧ Below w.heap.size w w':=by
 have HX:=keep (fn_idx x)
 have hle:=fn_le x
 have HE:=keep (show (fnS x = 0 → fnE x = 6) ∧ (fnS x ≠ 0 → fnE x = 0) from ⟨fun h => if_pos h,fun h => if_neg h⟩)
 go_enter Tryz.func257,Tryz.ntmps257
 go_wp2_with fail
 refine (tree_names _).mono ?_
 rintro e w1 ⟨rfl,hb1⟩
 have hrow:=row_set w1 209 zerosV namesV.toArray
 have hbl:=row_below w1 209 zerosV namesV.toArray
 obtain ⟨W1,hW1⟩ : ∃ W1,(w1.alloc (.cells zerosV 209)).setRow w1.heap.size namesV.toArray = W1:=⟨_,rfl⟩
 rw [hW1] at hrow hbl
 have hcs : ∀ i (h : i < fnNames.length),W1.cell? ⟨w1.heap.size,i,none⟩ = some (.string ⟨fnNames[i].toArray⟩):=by
  intro i h
  rw [cell_of_row W1 w1.heap.size i _ _ _ hrow]
  unfold namesV
  simp [h]
 have HC:=keep hcs
 have HB:=Lib.hid (below_step hb1 hbl)
 clear hcs hrow hbl hb1
 have HW:=Lib.hid hW1
 clear hW1
 go_wp2_with (refine wpList_store_row rfl _ _ _ rfl w1.heap.size namesV.toArray rfl rfl 209 zerosV (heap_alloc_new _ _) names_info zeros_size names_one ?_; change wpList _ _ _ _ _ ((w1.alloc (.cells zerosV 209)).setRow w1.heap.size namesV.toArray); rw [HW.out])
 refine (index_strs fnNames x w1.heap.size 50 W1 (by decide) HC.out).mono ?_
 rintro e w2 ⟨rfl,hw2⟩
 obtain rfl : W1 = w2:=hw2.symm
 rw [HX.out]
 by_cases h0 : fnS x = 0
 ·rw [if_pos h0]
  have HF:=keep (show fnS x = 0 ∧ fnE x = 6 from ⟨h0,HE.out.1 h0⟩)
  clear h0
  go_wp2_with fail
  exact bodyPost_ret (v:=.tuple #[.int .u8 0,.int .i64 6]) (by simp [results,Tryz.results257,go_sem]) rfl ⟨by rw [HF.out.1,HF.out.2]; rfl,HB.out⟩
 ·rw [if_neg h0]
  have HF:=keep (HE.out.2 h0)
  obtain ⟨n,hn⟩ : ∃ n,fnS x = n:=⟨_,rfl⟩
  rw [hn] at h0 hle ⊢
  have h1 : ¬ (n : Int) - 1 < 0:=by omega
  have h2 : (n : Int) - 1 + 1 = n:=by omega
  have h3 : (n : Int) % 256 = n:=by omega
  have HN:=keep hn
  clear hn
  go_wp2_with fail
  exact bodyPost_ret (v:=.tuple #[.int .u8 (n : Int),.int .i64 0]) (by simp [results,Tryz.results257,go_sem]) rfl ⟨by rw [HF.out,HN.out],HB.out⟩
def wideE (fn i : Nat) : Int:=if (arS fn).2 ≤ i then 3 else 0
theorem tree_released (fn : Nat) (w : World) :
  Calls Tryz.prog 219 #[.int .u8 (fn : Nat)] w fun e w' => e = .returned (.bool (decide (46 ≤ fn ∧ fn ≤ 50))) ∧ w' = w:=by
 by_cases h : 46 ≤ fn
 ·have g1 : (46 : Int) ≤ fn:=by omega
  go_enter Tryz.func219,Tryz.ntmps219
  go_wp2_with fail
  go_ret
  exact ⟨by show Ending.returned (Value.bool (decide ((fn : Int) ≤ 50))) = _; congr 2; rw [decide_eq_decide]; omega,rfl⟩
 ·have g1 : ¬ (46 : Int) ≤ fn:=by omega
  go_enter Tryz.func219,Tryz.ntmps219
  go_wp2_with fail
  go_ret
  exact ⟨by first | rfl | (rw [decide_eq_false (by omega)]; rfl),rfl⟩
theorem beq1 (x : Nat) : ((x : Int) == 1) = (x == 1):=by rw [Bool.eq_iff_iff]; simp; omega
theorem wide_no (fn i : Nat) (h : (arS fn).2 ≤ i) : wideS fn i = false ∧ wideE fn i = 3:=⟨by unfold wideS; rw [if_pos h],if_pos h⟩
theorem wide_any (fn i : Nat) (h : ¬ (arS fn).2 ≤ i) (hf : fn = 9 ∨ fn = 10 ∨ fn = 11 ∨ fn = 12 ∨ fn = 14 ∨ fn = 15 ∨ fn = 16 ∨ fn = 17) : wideS fn i = true:=by
 unfold wideS
 rw [if_neg h,if_pos (by simpa using hf)]
theorem wide_44 (fn i : Nat) (h : ¬ (arS fn).2 ≤ i) (hf : fn = 44) : wideS fn i = (i == 1):=by
 subst hf
 unfold wideS
 rw [if_neg h,if_neg (by decide),if_pos rfl]
theorem wide_one (fn i : Nat) (h : ¬ (arS fn).2 ≤ i) (hf : fn = 18 ∨ fn = 19 ∨ fn = 45 ∨ fn = 43 ∨ fn = 13) : wideS fn i = (i == 0):=by
 unfold wideS
 rw [if_neg h,if_neg (by simp; omega),if_neg (by omega),if_pos (by simpa using hf)]
theorem wide_else (fn i : Nat) (h : ¬ (arS fn).2 ≤ i) (hf : ¬ (fn = 9 ∨ fn = 10 ∨ fn = 11 ∨ fn = 12 ∨ fn = 14 ∨ fn = 15 ∨ fn = 16 ∨ fn = 17 ∨ fn = 44 ∨ fn = 18 ∨ fn = 19 ∨ fn = 45 ∨ fn = 43 ∨ fn = 13)) : wideS fn i = decide (46 ≤ fn ∧ fn ≤ 50):=by
 unfold wideS
 rw [if_neg h,if_neg (by simp; omega),if_neg (by omega),if_neg (by simp; omega)]
theorem tree_Wide (fn i : Nat) (w : World) (h1 : 1 ≤ fn) (h2 : fn ≤ 50) :
  Calls Tryz.prog 218 #[.int .u8 (fn : Nat),.int .i64 (i : Nat)] w fun e w' => e = .returned (.tuple #[.bool (wideS fn i),.int .i64 (wideE fn i)]) ∧ w' = w:=by
 by_cases hm : (arS fn).2 ≤ i
 ·have HM:=keep (wide_no fn i hm)
  have hmi : (((arS fn).2 : Nat) : Int) ≤ (i : Int):=by omega
  clear hm
  go_enter Tryz.func218,Tryz.ntmps218
  go_wp2_with fail
  refine (tree_Arity fn _ h1 h2).mono ?_
  rintro e w' ⟨rfl,hw⟩
  obtain rfl : w = w':=hw.symm
  go_wp2_with fail
  exact bodyPost_ret (v:=.tuple #[.bool false,.int .i64 3]) (by simp [results,Tryz.results218,go_sem]) rfl ⟨by rw [HM.out.1,HM.out.2],rfl⟩
 ·have HE:=keep (show wideE fn i = 0 from if_neg hm)
  have HM:=keep hm
  have hmi : ¬ (((arS fn).2 : Nat) : Int) ≤ (i : Int):=by omega
  clear hm
  go_enter Tryz.func218,Tryz.ntmps218
  go_wp2_with fail
  refine (tree_Arity fn _ h1 h2).mono ?_
  rintro e w' ⟨rfl,hw⟩
  obtain rfl : w = w':=hw.symm
  go_wp2_with fail
  all_goals simp only [beq_iff_eq,beq_eq_false_iff_ne,ne_eq] at *
  all_goals
   first
   | exact bodyPost_ret (v:=.tuple #[.bool true,.int .i64 0]) (by simp [results,Tryz.results218,go_sem]) rfl ⟨by rw [HE.out,wide_any fn i HM.out (by omega)],rfl⟩
   | exact bodyPost_ret (v:=.tuple #[.bool ((i : Int) == 1),.int .i64 0]) (by simp [results,Tryz.results218,go_sem]) rfl ⟨by rw [HE.out,wide_44 fn i HM.out (by omega),beq1],rfl⟩
   | exact bodyPost_ret (v:=.tuple #[.bool ((i : Int) == 0),.int .i64 0]) (by simp [results,Tryz.results218,go_sem]) rfl ⟨by rw [HE.out,wide_one fn i HM.out (by omega),beq0],rfl⟩
   | skip
  have HA:=keep (wide_else fn i HM.out (by omega))
  refine (tree_released fn _).mono ?_
  rintro e w' ⟨rfl,hw⟩
  obtain rfl : w = w':=hw.symm
  rw [← HA.out]
  go_wp2_with fail
  exact bodyPost_ret (v:=.tuple #[.bool (wideS fn i),.int .i64 0]) (by simp [results,Tryz.results218,go_sem]) rfl ⟨by rw [HE.out],rfl⟩
end Go.Proofs.YtnbemkiplnanlaaGreatDoor
namespace Go.Proofs.YtnbemkiplnanlaaGreatDoor
set_option maxRecDepth 100000
set_option maxHeartbeats 1000000
open Go.RowKit
theorem catch_fault (w0 : World) (tb ab eb : Nat) (v1 v2 v3 : Value) (a c : Int) (w : World) (ht : w0.heap.size ≤ tb) (ha : w0.heap.size ≤ ab) (he : w0.heap.size ≤ eb) (h12 : tb ≠ ab) (h13 : tb ≠ eb) (h23 : ab ≠ eb) (h : Ok w0 [kVar tb 22 [v1],kVar ab 3 [v2],kVar eb 24 [v3]] w) :
  CallsD Tryz.prog 58 #[.pointer (some ⟨tb,0,none⟩),.pointer (some ⟨ab,0,none⟩),.pointer (some ⟨eb,0,none⟩)] (.panicking (faultP a c)) w fun e u' w' =>
   e = .returned (.tuple #[]) ∧ u' = .panicking [{ v:=.iface 89 (.agg #[.int .i64 a,.int .i64 c]),recovered:=true }] ∧
    Ok w0 [kVar tb 22 [.slice none 0 0],kVar ab 3 [.int .i64 a],kVar eb 24 [.int .i64 c]] w':=by
 have hta : ∀ w : World,(Instr.typeAssert (.iface 89 (.agg #[.int .i64 a,.int .i64 c])) 20 89 true).run Tryz.prog w = .ok (.tuple #[.agg #[.int .i64 a,.int .i64 c],.bool true]) w:=fun _ => by kernel_rfl
 have H:=Lib.hid h
 clear h
 have F:=H.out.sees
 simp only [sees,kVar,cellsAt] at F
 obtain ⟨⟨⟨z0,f0⟩,c0,-⟩,⟨⟨z1,f1⟩,c1,-⟩,⟨⟨z2,f2⟩,c2,-⟩,-⟩:=F
 refine callsD_of_wpS Tryz.func58 rfl fun c₀ cs hu => ?_
 apply wpS_seq
 apply wpS_region
 simp [wpOpsS,go_sem,recoverD,hu,Tryz.ntmps58,Exit.thenS,faultP]
 refine wpS_of_wp ?_
 go_wp2_with fail
 have n1 : w.heap.size ≠ tb:=by omega
 have n2 : tb ≠ w.heap.size:=by omega
 have HA:=Lib.hid (H.out.alloc w.heap.size 89 [.int .i64 a,.int .i64 c] rfl)
 clear c0 z0 f0 c1 z1 f1 c2 z2 f2 H
 generalize (w.alloc (.cells #[.int .i64 a,.int .i64 c] 89)) = wa at HA ⊢
 generalize w.heap.size = ob at HA n1 n2 ⊢
 have F:=HA.out.sees
 simp only [sees,kVar,kBlk,cellsAt,Nat.reduceAdd] at F
 obtain ⟨⟨z3,c3,c4,-⟩,⟨⟨z0,f0⟩,c0,-⟩,⟨⟨z1,f1⟩,c1,-⟩,⟨⟨z2,f2⟩,c2,-⟩,-⟩:=F
 have HE:=Lib.hid (((((((HA.out.drop [kVar tb 22 [v1],kVar ab 3 [v2],kVar eb 24 [v3]] (by simp)).set_ (i:=0) (u:=.slice none 0 0) ht (by simp [kVar]; omega)).drop
  [kVar ab 3 [v2],kVar tb 22 [.slice none 0 0],kVar eb 24 [v3]] (by simp)).set_ (i:=0) (u:=.int .i64 a) ha (by simp [kVar]; omega)).drop
  [kVar eb 24 [v3],kVar tb 22 [.slice none 0 0],kVar ab 3 [.int .i64 a]] (by simp)).set_ (i:=0) (u:=.int .i64 c) he (by simp [kVar]; omega)).drop
  [kVar tb 22 [.slice none 0 0],kVar ab 3 [.int .i64 a],kVar eb 24 [.int .i64 c]] (by simp)).drew
 go_region
 all_goals go_wp2_with fail
 all_goals exact ⟨rfl,_,rfl,_,results_none rfl _ _ _,rfl,rfl,HE.out⟩
theorem catch_none (tb ab eb : Nat) (w : World) :
  CallsD Tryz.prog 58 #[.pointer (some ⟨tb,0,none⟩),.pointer (some ⟨ab,0,none⟩),.pointer (some ⟨eb,0,none⟩)] .returning w fun e u' w' => e = .returned (.tuple #[]) ∧ u' = .returning ∧ w' = w:=by
 refine callsD_of_wpS Tryz.func58 rfl fun c₀ cs hu => ?_
 apply wpS_seq
 apply wpS_region
 simp [wpOpsS,go_sem,recoverD,hu,Tryz.ntmps58,Exit.thenS]
 refine wpS_of_wp ?_
 go_wp2_with fail
 cases c₀
 simp only [] at hu
 subst hu
 exact ⟨rfl,_,rfl,_,results_none rfl _ _ _,rfl,rfl,rfl⟩
end Go.Proofs.YtnbemkiplnanlaaGreatDoor
