/- Chapter 42: wide, and the kit's EqualReply. -/
import Derived.Test.YtmalncmdfmoccaaGreatDoorCLnE
namespace Go.Proofs.YtmalncmdfmoccaaGreatDoor
open Go.RowKit
theorem sizeLn (t : ByteArray) : t.data.toList.length = t.size:=Array.length_toList
def wideB (r : RpD) : Bool:=decide (100 < r.grid.length ∨ 40 < r.evs.length ∨ 40 < r.rls.length ∨ 600 < r.text.length) || r.grid.any fun v => decide (600 < v.2.2.length)
theorem wider_head {r : RpD} (h : 100 < r.grid.length ∨ 40 < r.evs.length ∨ 40 < r.rls.length ∨ 600 < r.text.length) : wideB r = true:=by unfold wideB; rw [decide_eq_true h]; rfl
theorem wider_one {r : RpD} {v : VlL} (hv : v ∈ r.grid) (h : 600 < v.2.2.length) : wideB r = true:=by
  unfold wideB
  rw [show (r.grid.any fun v => decide (600 < v.2.2.length)) = true from List.any_eq_true.2 ⟨v,hv,decide_eq_true h⟩,Bool.or_true]
theorem wider_no {r : RpD} (h : ¬ (100 < r.grid.length ∨ 40 < r.evs.length ∨ 40 < r.rls.length ∨ 600 < r.text.length)) (hg : ∀ v ∈ r.grid,v.2.2.length ≤ 600) : wideB r = false:=by
  unfold wideB
  rw [decide_eq_false h,Bool.false_or,List.any_eq_false]
  intro v hv
  have:=hg v hv
  simp; omega
theorem wider_small {r : RpD} (h : wideB r = false) : r.grid.length ≤ 100 ∧ r.evs.length ≤ 40 ∧ r.rls.length ≤ 40 ∧ r.text.length ≤ 600 ∧ ∀ v ∈ r.grid,v.2.2.length ≤ 600:=by
  unfold wideB at h
  rw [Bool.or_eq_false_iff,decide_eq_false_iff_not,List.any_eq_false] at h
  refine ⟨by omega,by omega,by omega,by omega,fun v hv => ?_⟩
  have:=h.2 v hv
  simp at this; omega
set_option maxRecDepth 100000 in
set_option maxHeartbeats 8000000 in
theorem law_wide (c : Nat) (at_ : Int) (grid : List VlL) (TX : ByteArray) (evs : List EvD) (rls : List RlD) (ct : Int) (ga ea ra : Option Addr) (gc ec rc : Nat) (w : World) (hgr : RowsAt w ga 3 (grid.map vlRow)) (bg : grid.length ≤ 9223372036854775807) :
    Calls Tryz.prog 6 #[.agg #[.int .u8 (c : Nat),.int .i64 at_,.slice ga grid.length gc,.string TX,.slice ea evs.length ec,.slice ra rls.length rc,.int .i64 ct]] w fun e w' => e = .returned (.bool (wideB ⟨c,at_,grid,TX.data.toList,evs,rls,ct⟩)) ∧ Below w.heap.size w w':=by
  have HG:=keep hgr
  obtain ⟨gn,hgn⟩ : ∃ n,grid.length = n:=⟨_,rfl⟩
  obtain ⟨en,hen⟩ : ∃ n,evs.length = n:=⟨_,rfl⟩
  obtain ⟨rn,hrn⟩ : ∃ n,rls.length = n:=⟨_,rfl⟩
  obtain ⟨V,hV⟩ : ∃ V,wideB ⟨c,at_,grid,TX.data.toList,evs,rls,ct⟩ = V:=⟨_,rfl⟩
  rw [hV]
  have HGN:=keep hgn
  have HY:=keep (fun h => hV.symm.trans (wider_head (r:=⟨c,at_,grid,TX.data.toList,evs,rls,ct⟩) h))
  have HO:=keep (fun v hv h => hV.symm.trans (wider_one (r:=⟨c,at_,grid,TX.data.toList,evs,rls,ct⟩) (v:=v) hv h))
  have HN:=keep (fun h hg => hV.symm.trans (wider_no (r:=⟨c,at_,grid,TX.data.toList,evs,rls,ct⟩) h hg))
  simp only [hgn,hen,hrn,sizeLn] at HY HN
  rw [hgn] at bg ⊢
  rw [hen,hrn]
  clear hgr hgn hen hrn hV
  by_cases q1 : (gn : Int) > 100
  · obtain rfl : V = true:=HY.out (.inl (by omega))
    have H1:=Lib.hid ((Ok.start w).alloc w.heap.size 26 [.int .u8 (c : Nat),.int .i64 at_,.slice ga gn gc,.string TX,.slice ea en ec,.slice ra rn rc,.int .i64 ct] rfl)
    go_enter Tryz.func6,Tryz.ntmps6
    go_upto_region 1 with fail
    generalize (w.alloc (.cells #[.int .u8 (c : Nat),.int .i64 at_,.slice ga gn gc,.string TX,.slice ea en ec,.slice ra rn rc,.int .i64 ct] 26)) = W2 at H1 ⊢
    have F3:=H1.out.sees
    simp only [sees,kBlk,cellsAt,Nat.reduceAdd] at F3
    obtain ⟨⟨z0,c0_0,c0_1,c0_2,c0_3,c0_4,c0_5,c0_6,-⟩,-⟩:=F3
    go_wp2_with fail
    go_ret
    exact ⟨rfl,H1.out.bel⟩
  by_cases q2 : (en : Int) > 40
  · obtain rfl : V = true:=HY.out (.inr (.inl (by omega)))
    have H1:=Lib.hid ((Ok.start w).alloc w.heap.size 26 [.int .u8 (c : Nat),.int .i64 at_,.slice ga gn gc,.string TX,.slice ea en ec,.slice ra rn rc,.int .i64 ct] rfl)
    go_enter Tryz.func6,Tryz.ntmps6
    go_upto_region 1 with fail
    generalize (w.alloc (.cells #[.int .u8 (c : Nat),.int .i64 at_,.slice ga gn gc,.string TX,.slice ea en ec,.slice ra rn rc,.int .i64 ct] 26)) = W2 at H1 ⊢
    have F3:=H1.out.sees
    simp only [sees,kBlk,cellsAt,Nat.reduceAdd] at F3
    obtain ⟨⟨z0,c0_0,c0_1,c0_2,c0_3,c0_4,c0_5,c0_6,-⟩,-⟩:=F3
    go_wp2_with fail
    go_ret
    exact ⟨rfl,H1.out.bel⟩
  by_cases q3 : (rn : Int) > 40
  · obtain rfl : V = true:=HY.out (.inr (.inr (.inl (by omega))))
    have H1:=Lib.hid ((Ok.start w).alloc w.heap.size 26 [.int .u8 (c : Nat),.int .i64 at_,.slice ga gn gc,.string TX,.slice ea en ec,.slice ra rn rc,.int .i64 ct] rfl)
    go_enter Tryz.func6,Tryz.ntmps6
    go_upto_region 1 with fail
    generalize (w.alloc (.cells #[.int .u8 (c : Nat),.int .i64 at_,.slice ga gn gc,.string TX,.slice ea en ec,.slice ra rn rc,.int .i64 ct] 26)) = W2 at H1 ⊢
    have F3:=H1.out.sees
    simp only [sees,kBlk,cellsAt,Nat.reduceAdd] at F3
    obtain ⟨⟨z0,c0_0,c0_1,c0_2,c0_3,c0_4,c0_5,c0_6,-⟩,-⟩:=F3
    go_wp2_with fail
    go_ret
    exact ⟨rfl,H1.out.bel⟩
  by_cases q4 : (TX.size : Int) > 600
  · obtain rfl : V = true:=HY.out (.inr (.inr (.inr (by omega))))
    have H1:=Lib.hid ((Ok.start w).alloc w.heap.size 26 [.int .u8 (c : Nat),.int .i64 at_,.slice ga gn gc,.string TX,.slice ea en ec,.slice ra rn rc,.int .i64 ct] rfl)
    go_enter Tryz.func6,Tryz.ntmps6
    go_upto_region 1 with fail
    generalize (w.alloc (.cells #[.int .u8 (c : Nat),.int .i64 at_,.slice ga gn gc,.string TX,.slice ea en ec,.slice ra rn rc,.int .i64 ct] 26)) = W2 at H1 ⊢
    have F3:=H1.out.sees
    simp only [sees,kBlk,cellsAt,Nat.reduceAdd] at F3
    obtain ⟨⟨z0,c0_0,c0_1,c0_2,c0_3,c0_4,c0_5,c0_6,-⟩,-⟩:=F3
    go_wp2_with fail
    go_ret
    exact ⟨rfl,H1.out.bel⟩
  have H1:=Lib.hid ((Ok.start w).alloc w.heap.size 26 [.int .u8 (c : Nat),.int .i64 at_,.slice ga gn gc,.string TX,.slice ea en ec,.slice ra rn rc,.int .i64 ct] rfl)
  go_enter Tryz.func6,Tryz.ntmps6
  go_upto_region 1 with fail
  generalize (w.alloc (.cells #[.int .u8 (c : Nat),.int .i64 at_,.slice ga gn gc,.string TX,.slice ea en ec,.slice ra rn rc,.int .i64 ct] 26)) = W2 at H1 ⊢
  have F3:=H1.out.sees
  simp only [sees,kBlk,cellsAt,Nat.reduceAdd] at F3
  obtain ⟨⟨z0,c0_0,c0_1,c0_2,c0_3,c0_4,c0_5,c0_6,-⟩,-⟩:=F3
  go_wp2_with fail
  go_loopw [3] (fun iv wr => ∃ i : Nat,i ≤ gn ∧ iv = .int .i64 (i : Int) ∧ Keep (∀ v ∈ grid.take i,v.2.2.length ≤ 600) ∧ Hid (Ok w [kBlk (w.heap.size) 26 [.int .u8 (c : Nat),.int .i64 at_,.slice ga gn gc,.string TX,.slice ea en ec,.slice ra rn rc,.int .i64 ct]] wr)) (fun iv _ => gn - (intOf iv).toNat)
  case atStart => exact ⟨0,Nat.zero_le _,rfl,keep (by simp),H1⟩
  case round =>
    clear z0 c0_0 c0_1 c0_2 c0_3 c0_4 c0_5 c0_6
    clear H1
    obtain ⟨i,hi_,rfl,HS,HR⟩:=hrel
    obtain ⟨wp,rfl⟩ : ∃ wz : World,wz = wr:=⟨_,rfl⟩
    by_cases hlt : (i : Int) < (gn : Int)
    · obtain ⟨x,hx⟩ : ∃ x,grid[i]? = some x:=⟨_,List.getElem?_eq_getElem (by rw [HGN.out]; omega)⟩
      obtain ⟨bb,oo,haa,hBB,hcc⟩:=rows_atL (HG.out.below HR.out.bel) (i:=i) (r:=vlRow x) (by rw [List.getElem?_map,hx]; rfl)
      subst haa
      have HXX:=keep hx
      have e2:=hcc 2 _ rfl
      obtain ⟨X,hX⟩ : ∃ X : ByteArray,⟨x.2.2.toArray⟩ = X:=⟨_,rfl⟩
      rw [hX] at e2
      have hXs : X.size = x.2.2.length:=by rw [← hX]; show x.2.2.toArray.size = _; rw [List.size_toArray]
      have HXS:=keep hXs
      clear hx hcc hX hXs
      have F4:=HR.out.sees
      simp only [sees,kBlk,cellsAt,Nat.reduceAdd] at F4
      obtain ⟨⟨z0,c0_0,c0_1,c0_2,c0_3,c0_4,c0_5,c0_6,-⟩,-⟩:=F4
      by_cases hbig : (X.size : Int) > 600
      · obtain rfl : V = true:=HO.out x (List.mem_of_getElem? HXX.out) (by have:=HXS.out; omega)
        go_wp2_with fail
        go_ret
        exact ⟨rfl,HR.out.bel⟩
      · go_wp2_with fail
        go_roundw
        case rel => exact ⟨i + 1,by omega,by go_num,keep (by rw [take_snoc HXX.out]; intro v hv; rcases List.mem_append.1 hv with hv | hv; exact HS.out v hv; rw [List.mem_singleton] at hv; subst hv; have:=HXS.out; omega),HR⟩
        case measure => simp [intOf]; omega
    · obtain rfl : gn = i:=by omega
      have HF:=keep (List.take_of_length_le (l:=grid) (i:=gn) (by rw [HGN.out]; exact Nat.le_refl _))
      rw [HF.out] at HS
      obtain rfl : V = false:=HN.out (by omega) HS.out
      have F4:=HR.out.sees
      simp only [sees,kBlk,cellsAt,Nat.reduceAdd] at F4
      obtain ⟨⟨z0,c0_0,c0_1,c0_2,c0_3,c0_4,c0_5,c0_6,-⟩,-⟩:=F4
      go_wp2_with fail
      go_ret
      exact ⟨rfl,HR.out.bel⟩
open Classical in
noncomputable def eqR (a b : RpD) : Bool:=decide (a = b)
open Classical in
theorem eqR_iff (a b : RpD) : eqR a b = true ↔ a = b:=decide_eq_true_iff
theorem eqR_of (xc yc : Nat) (xat yat : Int) (xg yg : List VlL) (xt yt : List UInt8) (xe ye : List EvD) (xr yr : List RlD) (xct yct : Int) :
    eqR ⟨xc,xat,xg,xt,xe,xr,xct⟩ ⟨yc,yat,yg,yt,ye,yr,yct⟩ = (((xc : Int) == (yc : Int)) && (xat == yat) && eqL xg yg && (xt == yt) && eqL xe ye && eqL xr yr && (xct == yct)):=by
  rw [Bool.eq_iff_iff,eqR_iff]
  simp only [Bool.and_eq_true,eqL_iff,beq_iff_eq]
  constructor
  · intro h
    cases h
    exact ⟨⟨⟨⟨⟨⟨rfl,rfl⟩,rfl⟩,rfl⟩,rfl⟩,rfl⟩,rfl⟩
  · rintro ⟨⟨⟨⟨⟨⟨h,rfl⟩,rfl⟩,rfl⟩,rfl⟩,rfl⟩,rfl⟩
    have h : xc = yc:=by omega
    rw [h]
set_option maxRecDepth 100000 in
set_option maxHeartbeats 8000000 in
theorem equal_reply (xc : Nat) (xat : Int) (xg : List VlL) (xTX : ByteArray) (xe : List EvD) (xr : List RlD) (xct : Int) (xga xea xra : Option Addr) (xgc xec xrc : Nat) (yc : Nat) (yat : Int) (yg : List VlL) (yTX : ByteArray) (ye : List EvD) (yr : List RlD) (yct : Int) (yga yea yra : Option Addr) (ygc yec yrc : Nat) (w : World) (xh1 : RowsAt w xga 3 (xg.map vlRow)) (xh2 : RowsAt w xea 9 (xe.map evRow)) (xh3 : RowsAt w xra 11 (xr.map rlRow)) (xb1 : xg.length ≤ 1000) (xb2 : xe.length ≤ 1000) (xb3 : xr.length ≤ 1000) (yh1 : RowsAt w yga 3 (yg.map vlRow)) (yh2 : RowsAt w yea 9 (ye.map evRow)) (yh3 : RowsAt w yra 11 (yr.map rlRow)) (yb1 : yg.length ≤ 1000) (yb2 : ye.length ≤ 1000) (yb3 : yr.length ≤ 1000) :
    Calls Tryz.prog 11 #[.agg #[.int .u8 (xc : Nat),.int .i64 xat,.slice xga xg.length xgc,.string xTX,.slice xea xe.length xec,.slice xra xr.length xrc,.int .i64 xct],.agg #[.int .u8 (yc : Nat),.int .i64 yat,.slice yga yg.length ygc,.string yTX,.slice yea ye.length yec,.slice yra yr.length yrc,.int .i64 yct]] w fun e w' => e = .returned (.bool (eqR ⟨xc,xat,xg,xTX.data.toList,xe,xr,xct⟩ ⟨yc,yat,yg,yTX.data.toList,ye,yr,yct⟩)) ∧ Below w.heap.size w w':=by
  rw [eqR_of]
  have HV:=keep (fun W (h : Below w.heap.size w W) => equal_vals xg yg xga yga xgc ygc W (xh1.below h) (yh1.below h) (by omega) (by omega))
  have HE:=keep (fun W (h : Below w.heap.size w W) => equal_evs xe ye xea yea xec yec W (xh2.below h) (yh2.below h) (by omega) (by omega))
  have HR:=keep (fun W (h : Below w.heap.size w W) => equal_rls xr yr xra yra xrc yrc W (xh3.below h) (yh3.below h) (by omega) (by omega))
  obtain ⟨xgn,hxgn⟩ : ∃ n,xg.length = n:=⟨_,rfl⟩
  obtain ⟨xen,hxen⟩ : ∃ n,xe.length = n:=⟨_,rfl⟩
  obtain ⟨xrn,hxrn⟩ : ∃ n,xr.length = n:=⟨_,rfl⟩
  obtain ⟨ygn,hygn⟩ : ∃ n,yg.length = n:=⟨_,rfl⟩
  obtain ⟨yen,hyen⟩ : ∃ n,ye.length = n:=⟨_,rfl⟩
  obtain ⟨yrn,hyrn⟩ : ∃ n,yr.length = n:=⟨_,rfl⟩
  rw [hxgn,hygn] at HV
  rw [hxen,hyen] at HE
  rw [hxrn,hyrn] at HR
  rw [hxgn,hygn,hxen,hyen,hxrn,hyrn]
  obtain ⟨vg,hvg⟩ : ∃ b,eqL xg yg = b:=⟨_,rfl⟩
  obtain ⟨ve,hve⟩ : ∃ b,eqL xe ye = b:=⟨_,rfl⟩
  obtain ⟨vr,hvr⟩ : ∃ b,eqL xr yr = b:=⟨_,rfl⟩
  rw [hvg] at HV ⊢
  rw [hve] at HE ⊢
  rw [hvr] at HR ⊢
  rw [← toL,← toL]
  clear xh1 xh2 xh3 xb1 xb2 xb3 yh1 yh2 yh3 yb1 yb2 yb3 hxgn hygn hxen hyen hxrn hyrn hvg hve hvr
  obtain ⟨B,hB⟩ : ∃ B : Bool,((((xc : Int) == (yc : Int)) && (xat == yat) && vg && (xTX.toList == yTX.toList) && ve && vr && (xct == yct))) = B:=⟨_,rfl⟩
  rw [hB]
  have H1:=Lib.hid (((Ok.start w).alloc w.heap.size 26 [.int .u8 (xc : Nat),.int .i64 xat,.slice xga xgn xgc,.string xTX,.slice xea xen xec,.slice xra xrn xrc,.int .i64 xct] rfl).alloc (w.heap.size + 1) 26 [.int .u8 (yc : Nat),.int .i64 yat,.slice yga ygn ygc,.string yTX,.slice yea yen yec,.slice yra yrn yrc,.int .i64 yct] (by simp))
  go_enter Tryz.func11,Tryz.ntmps11
  go_upto_region 1 with fail
  generalize ((w.alloc (.cells #[.int .u8 (xc : Nat),.int .i64 xat,.slice xga xgn xgc,.string xTX,.slice xea xen xec,.slice xra xrn xrc,.int .i64 xct] 26)).alloc (.cells #[.int .u8 (yc : Nat),.int .i64 yat,.slice yga ygn ygc,.string yTX,.slice yea yen yec,.slice yra yrn yrc,.int .i64 yct] 26)) = W2 at H1 ⊢
  have F3:=H1.out.sees
  simp only [sees,kBlk,cellsAt,Nat.reduceAdd] at F3
  obtain ⟨⟨z0,c0_0,c0_1,c0_2,c0_3,c0_4,c0_5,c0_6,-⟩,⟨z1,c1_0,c1_1,c1_2,c1_3,c1_4,c1_5,c1_6,-⟩,-⟩:=F3
  cases e1 : ((xc : Int) == (yc : Int))
  · simp only [e1,Bool.false_and] at hB
    subst hB
    go_wp2_with fail
    go_ret
    exact ⟨rfl,H1.out.bel⟩
  cases e2 : (xat == yat)
  · simp only [e1,e2,Bool.false_and,Bool.and_false] at hB
    subst hB
    go_wp2_with fail
    go_ret
    exact ⟨rfl,H1.out.bel⟩
  go_wp2_with fail
  refine (HV.out _ H1.out.bel).mono ?_
  rintro e w4 ⟨rfl,hb5⟩
  clear z0 c0_0 c0_1 c0_2 c0_3 c0_4 c0_5 c0_6 z1 c1_0 c1_1 c1_2 c1_3 c1_4 c1_5 c1_6
  have H6:=Lib.hid (H1.out.below hb5)
  clear hb5 H1
  have F7:=H6.out.sees
  simp only [sees,kBlk,cellsAt,Nat.reduceAdd] at F7
  obtain ⟨⟨z0,c0_0,c0_1,c0_2,c0_3,c0_4,c0_5,c0_6,-⟩,⟨z1,c1_0,c1_1,c1_2,c1_3,c1_4,c1_5,c1_6,-⟩,-⟩:=F7
  cases vg
  · simp only [e1,e2,Bool.false_and,Bool.and_true,Bool.and_false] at hB
    subst hB
    go_wp2_with fail
    go_ret
    exact ⟨rfl,H6.out.bel⟩
  cases e4 : (xTX.toList == yTX.toList)
  · simp only [e1,e2,e4,Bool.false_and,Bool.and_true,Bool.and_false] at hB
    subst hB
    go_wp2_with fail
    go_ret
    exact ⟨rfl,H6.out.bel⟩
  go_wp2_with fail
  refine (HE.out _ H6.out.bel).mono ?_
  rintro e w8 ⟨rfl,hb9⟩
  clear z0 c0_0 c0_1 c0_2 c0_3 c0_4 c0_5 c0_6 z1 c1_0 c1_1 c1_2 c1_3 c1_4 c1_5 c1_6
  have H10:=Lib.hid (H6.out.below hb9)
  clear hb9 H6
  have F11:=H10.out.sees
  simp only [sees,kBlk,cellsAt,Nat.reduceAdd] at F11
  obtain ⟨⟨z0,c0_0,c0_1,c0_2,c0_3,c0_4,c0_5,c0_6,-⟩,⟨z1,c1_0,c1_1,c1_2,c1_3,c1_4,c1_5,c1_6,-⟩,-⟩:=F11
  cases ve
  · simp only [e1,e2,e4,Bool.false_and,Bool.and_true,Bool.and_false] at hB
    subst hB
    go_wp2_with fail
    go_ret
    exact ⟨rfl,H10.out.bel⟩
  go_wp2_with fail
  refine (HR.out _ H10.out.bel).mono ?_
  rintro e w12 ⟨rfl,hb13⟩
  clear z0 c0_0 c0_1 c0_2 c0_3 c0_4 c0_5 c0_6 z1 c1_0 c1_1 c1_2 c1_3 c1_4 c1_5 c1_6
  have H14:=Lib.hid (H10.out.below hb13)
  clear hb13 H10
  have F15:=H14.out.sees
  simp only [sees,kBlk,cellsAt,Nat.reduceAdd] at F15
  obtain ⟨⟨z0,c0_0,c0_1,c0_2,c0_3,c0_4,c0_5,c0_6,-⟩,⟨z1,c1_0,c1_1,c1_2,c1_3,c1_4,c1_5,c1_6,-⟩,-⟩:=F15
  cases vr
  · simp only [e1,e2,e4,Bool.false_and,Bool.and_true,Bool.and_false] at hB
    subst hB
    go_wp2_with fail
    go_ret
    exact ⟨rfl,H14.out.bel⟩
  simp only [e1,e2,e4,Bool.true_and] at hB
  subst hB
  go_wp2_with fail
  go_ret
  exact ⟨rfl,H14.out.bel⟩
end Go.Proofs.YtmalncmdfmoccaaGreatDoor
