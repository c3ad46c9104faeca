/- Chapter 42: LinesTells. -/
import Derived.Test.YtmalncmdfmoccaaGreatDoorBLnK
namespace Go.Proofs.YtmalncmdfmoccaaGreatDoor
open Go.RowKit
structure RpIn (r : RpD) : Prop where
  code : r.code < 256
  at_ : i64B r.at_
  count : i64B r.count
  nums : ∀ v ∈ r.grid,-9223372036854775808 ≤ v.2.1 ∧ v.2.1 ≤ 9223372036854775807
  evs : ∀ x ∈ r.evs,x.Ok
  rls : ∀ x ∈ r.rls,x.Ok
  gl : r.grid.length ≤ 9223372036854775807
theorem RpIn.ok {r : RpD} (h : RpIn r) (hw : wideB r = false) : r.Ok:=by
  obtain ⟨h1,h2,h3,-,-⟩:=wider_small hw
  exact ⟨h.at_,h.count,h.nums,h.evs,h.rls,by omega,by omega,by omega⟩
theorem list_bytes (X : ByteArray) (h : ∀ b ∈ X.data.toList,plainB b = true) (k : Nat) (hk : k < X.size) : 32 ≤ ((X[k]'hk).toNat : Int) ∧ ((X[k]'hk).toNat : Int) ≤ 126:=by
  have h9 : X[k]'hk ∈ X.data.toList:=by
    show X.data[k]'_ ∈ _
    exact Array.mem_toList_iff.2 (Array.getElem_mem _)
  have:=h _ h9
  unfold plainB at this
  simp at this
  omega
theorem tells_head {r : RpD} (g : goodR r) (X : ByteArray) (hX : X.data.toList = replyL r) : 3 ≤ X.size ∧ ((X.extract 0 (min (4 : Int) (X.size : Int)).toNat).toList == [100,111,110,101]) = ((r.code : Int) == 0):=by
  obtain ⟨h1,h2⟩:=reply_head g
  rw [← hX,sizeLn] at h1
  refine ⟨h1,?_⟩
  rw [Bool.eq_iff_iff,beq_iff_eq,beq_iff_eq,toL,Lib.extract_data]
  rw [← hX] at h2
  rw [sizeLn] at h2
  rw [show (min (4 : Int) (X.size : Int)).toNat = min 4 X.size from by omega]
  rw [List.drop_zero,Nat.sub_zero,h2]
  omega
set_option maxRecDepth 100000 in
set_option maxHeartbeats 8000000 in
theorem law_LinesTells (xc : Nat) (xat : Int) (xg : List VlL) (xTX : ByteArray) (xe : List EvD) (xr : List RlD) (xct : Int) (xga xea xra : Option Addr) (xgc xec xrc : Nat) (yc : Nat) (yat : Int) (yg : List VlL) (yTX : ByteArray) (ye : List EvD) (yr : List RlD) (yct : Int) (yga yea yra : Option Addr) (ygc yec yrc : Nat) (w : World) (xhi : RpIn ⟨xc,xat,xg,xTX.data.toList,xe,xr,xct⟩) (xh1 : RowsAt w xga 3 (xg.map vlRow)) (xh2 : RowsAt w xea 9 (xe.map evRow)) (xh3 : RowsAt w xra 11 (xr.map rlRow)) (yhi : RpIn ⟨yc,yat,yg,yTX.data.toList,ye,yr,yct⟩) (yh1 : RowsAt w yga 3 (yg.map vlRow)) (yh2 : RowsAt w yea 9 (ye.map evRow)) (yh3 : RowsAt w yra 11 (yr.map rlRow)) (he : LEnv w) :
    Calls Tryz.prog 4 #[.agg #[.int .u8 (xc : Nat),.int .i64 xat,.slice xga xg.length xgc,.string xTX,.slice xea xe.length xec,.slice xra xr.length xrc,.int .i64 xct],.agg #[.int .u8 (yc : Nat),.int .i64 yat,.slice yga yg.length ygc,.string yTX,.slice yea ye.length yec,.slice yra yr.length yrc,.int .i64 yct]] w fun e w' => e = .returned (.bool true) ∧ Below w.heap.size w w':=by
  have HE:=keep he
  have HK:=keep (fun W h => law_known42 W h)
  have Wx:=keep (fun W (h : Below w.heap.size w W) => law_wide xc xat xg xTX xe xr xct xga xea xra xgc xec xrc W (xh1.below h) xhi.gl)
  have Wy:=keep (fun W (h : Below w.heap.size w W) => law_wide yc yat yg yTX ye yr yct yga yea yra ygc yec yrc W (yh1.below h) yhi.gl)
  have RX:=keep (fun (hv : wideB ⟨xc,xat,xg,xTX.data.toList,xe,xr,xct⟩ = false) W (h : Below w.heap.size w W) => ln_reply xc xat xg xTX xe xr xct xga xea xra xgc xec xrc W (xhi.ok hv) xhi.code (by have:=(wider_small hv).2.2.2.1; rw [sizeLn] at this; omega) (fun v hm => by have:=(wider_small hv).2.2.2.2 v hm; omega) (xh1.below h) (xh2.below h) (xh3.below h) (HE.out.below h))
  have RY:=keep (fun (hv : wideB ⟨yc,yat,yg,yTX.data.toList,ye,yr,yct⟩ = false) W (h : Below w.heap.size w W) => ln_reply yc yat yg yTX ye yr yct yga yea yra ygc yec yrc W (yhi.ok hv) yhi.code (by have:=(wider_small hv).2.2.2.1; rw [sizeLn] at this; omega) (fun v hm => by have:=(wider_small hv).2.2.2.2 v hm; omega) (yh1.below h) (yh2.below h) (yh3.below h) (HE.out.below h))
  have EQ:=keep (fun (hv : wideB ⟨xc,xat,xg,xTX.data.toList,xe,xr,xct⟩ = false) (hu : wideB ⟨yc,yat,yg,yTX.data.toList,ye,yr,yct⟩ = false) W (h : Below w.heap.size w W) => equal_reply xc xat xg xTX xe xr xct xga xea xra xgc xec xrc yc yat yg yTX ye yr yct yga yea yra ygc yec yrc W (xh1.below h) (xh2.below h) (xh3.below h) (xhi.ok hv).gl (xhi.ok hv).el (xhi.ok hv).rl (yh1.below h) (yh2.below h) (yh3.below h) (yhi.ok hu).gl (yhi.ok hu).el (yhi.ok hu).rl)
  have HOX:=keep (fun hv => xhi.ok hv)
  have HOY:=keep (fun hv => yhi.ok hv)
  clear xhi xh1 xh2 xh3 yhi yh1 yh2 yh3 he
  obtain ⟨va,hva⟩ : ∃ b,wideB ⟨xc,xat,xg,xTX.data.toList,xe,xr,xct⟩ = b:=⟨_,rfl⟩
  obtain ⟨vb,hvb⟩ : ∃ b,wideB ⟨yc,yat,yg,yTX.data.toList,ye,yr,yct⟩ = b:=⟨_,rfl⟩
  rw [hva] at Wx RX EQ HOX
  rw [hvb] at Wy RY EQ HOY
  clear hva hvb
  obtain ⟨r,hr⟩ : ∃ r : RpD,r = ⟨xc,xat,xg,xTX.data.toList,xe,xr,xct⟩:=⟨_,rfl⟩
  obtain ⟨u,hu⟩ : ∃ u : RpD,u = ⟨yc,yat,yg,yTX.data.toList,ye,yr,yct⟩:=⟨_,rfl⟩
  have HCD:=keep (show xc = r.code from by rw [hr])
  rw [← hr] at RX EQ HOX
  rw [← hu] at RY EQ HOY
  clear hr hu
  obtain ⟨xgn,hxg⟩ : ∃ n,xg.length = n:=⟨_,rfl⟩
  obtain ⟨xen,hxe⟩ : ∃ n,xe.length = n:=⟨_,rfl⟩
  obtain ⟨xrn,hxr⟩ : ∃ n,xr.length = n:=⟨_,rfl⟩
  rw [hxg,hxe,hxr] at Wx RX EQ ⊢
  clear hxg hxe hxr
  obtain ⟨ygn,hyg⟩ : ∃ n,yg.length = n:=⟨_,rfl⟩
  obtain ⟨yen,hye⟩ : ∃ n,ye.length = n:=⟨_,rfl⟩
  obtain ⟨yrn,hyr⟩ : ∃ n,yr.length = n:=⟨_,rfl⟩
  rw [hyg,hye,hyr] at Wy RY EQ ⊢
  clear hyg hye hyr
  have H1:=Lib.hid (((Ok.start w).alloc w.heap.size 26 [.int .u8 (xc : Nat),.int .i64 xat,.slice xga xgn xgc,.string xTX,.slice xea xen xec,.slice xra xrn xrc,.int .i64 xct] rfl).alloc (w.heap.size + 1) 26 [.int .u8 (yc : Nat),.int .i64 yat,.slice yga ygn ygc,.string yTX,.slice yea yen yec,.slice yra yrn yrc,.int .i64 yct] (by simp))
  go_enter Tryz.func4,Tryz.ntmps4
  go_upto_region 1 with fail
  generalize ((w.alloc (.cells #[.int .u8 (xc : Nat),.int .i64 xat,.slice xga xgn xgc,.string xTX,.slice xea xen xec,.slice xra xrn xrc,.int .i64 xct] 26)).alloc (.cells #[.int .u8 (yc : Nat),.int .i64 yat,.slice yga ygn ygc,.string yTX,.slice yea yen yec,.slice yra yrn yrc,.int .i64 yct] 26)) = W2 at H1 ⊢
  have F3:=H1.out.sees
  simp only [sees,kBlk,cellsAt,Nat.reduceAdd] at F3
  obtain ⟨⟨z0,c0_0,c0_1,c0_2,c0_3,c0_4,c0_5,c0_6,-⟩,⟨z1,c1_0,c1_1,c1_2,c1_3,c1_4,c1_5,c1_6,-⟩,-⟩:=F3
  go_wp2_with fail
  refine (Wx.out _ H1.out.bel).mono ?_
  rintro e w4 ⟨rfl,hb5⟩
  clear z0 c0_0 c0_1 c0_2 c0_3 c0_4 c0_5 c0_6 z1 c1_0 c1_1 c1_2 c1_3 c1_4 c1_5 c1_6
  have H6:=Lib.hid (H1.out.below hb5)
  clear hb5 H1
  have F7:=H6.out.sees
  simp only [sees,kBlk,cellsAt,Nat.reduceAdd] at F7
  obtain ⟨⟨z0,c0_0,c0_1,c0_2,c0_3,c0_4,c0_5,c0_6,-⟩,⟨z1,c1_0,c1_1,c1_2,c1_3,c1_4,c1_5,c1_6,-⟩,-⟩:=F7
  cases va
  · go_wp2_with fail
    refine (Wy.out _ H6.out.bel).mono ?_
    rintro e w8 ⟨rfl,hb9⟩
    clear z0 c0_0 c0_1 c0_2 c0_3 c0_4 c0_5 c0_6 z1 c1_0 c1_1 c1_2 c1_3 c1_4 c1_5 c1_6
    have H10:=Lib.hid (H6.out.below hb9)
    clear hb9 H6
    have F11:=H10.out.sees
    simp only [sees,kBlk,cellsAt,Nat.reduceAdd] at F11
    obtain ⟨⟨z0,c0_0,c0_1,c0_2,c0_3,c0_4,c0_5,c0_6,-⟩,⟨z1,c1_0,c1_1,c1_2,c1_3,c1_4,c1_5,c1_6,-⟩,-⟩:=F11
    cases vb
    · obtain ⟨PX,hPX⟩ : ∃ p,replyE r = p:=⟨_,rfl⟩
      obtain ⟨PY,hPY⟩ : ∃ p,replyE u = p:=⟨_,rfl⟩
      have HPX:=keep hPX
      have HPY:=keep hPY
      rw [hPX] at RX
      rw [hPY] at RY
      clear hPX hPY
      obtain ⟨lx,ex⟩:=PX
      obtain ⟨ly,ey⟩:=PY
      dsimp only at RX RY
      obtain ⟨SX,hSX⟩ : ∃ S : ByteArray,⟨lx.toArray⟩ = S:=⟨_,rfl⟩
      obtain ⟨SY,hSY⟩ : ∃ S : ByteArray,⟨ly.toArray⟩ = S:=⟨_,rfl⟩
      rw [hSX] at RX
      rw [hSY] at RY
      have HSX:=keep hSX
      have HSY:=keep hSY
      clear hSX hSY
      go_wp2_with fail
      refine (RX.out (by trivial) _ H10.out.bel).mono ?_
      rintro e w12 ⟨rfl,hb13⟩
      clear z0 c0_0 c0_1 c0_2 c0_3 c0_4 c0_5 c0_6 z1 c1_0 c1_1 c1_2 c1_3 c1_4 c1_5 c1_6
      have H14:=Lib.hid (H10.out.below hb13)
      clear hb13 H10
      have F15:=H14.out.sees
      simp only [sees,kBlk,cellsAt,Nat.reduceAdd] at F15
      obtain ⟨⟨z0,c0_0,c0_1,c0_2,c0_3,c0_4,c0_5,c0_6,-⟩,⟨z1,c1_0,c1_1,c1_2,c1_3,c1_4,c1_5,c1_6,-⟩,-⟩:=F15
      go_wp2_with fail
      refine (RY.out (by trivial) _ H14.out.bel).mono ?_
      rintro e w16 ⟨rfl,hb17⟩
      clear z0 c0_0 c0_1 c0_2 c0_3 c0_4 c0_5 c0_6 z1 c1_0 c1_1 c1_2 c1_3 c1_4 c1_5 c1_6
      have H18:=Lib.hid (H14.out.below hb17)
      clear hb17 H14
      have F19:=H18.out.sees
      simp only [sees,kBlk,cellsAt,Nat.reduceAdd] at F19
      obtain ⟨⟨z0,c0_0,c0_1,c0_2,c0_3,c0_4,c0_5,c0_6,-⟩,⟨z1,c1_0,c1_1,c1_2,c1_3,c1_4,c1_5,c1_6,-⟩,-⟩:=F19
      by_cases gx : goodR r
      case neg =>
        have h2 : ex = 2:=by have:=HPX.out; rw [reply_no gx] at this; exact (congrArg Prod.snd this).symm
        subst h2
        go_wp2_with fail
        refine (HK.out _ (HE.out.below H18.out.bel)).mono ?_
        rintro e w20 ⟨rfl,hb21⟩
        clear z0 c0_0 c0_1 c0_2 c0_3 c0_4 c0_5 c0_6 z1 c1_0 c1_1 c1_2 c1_3 c1_4 c1_5 c1_6
        have H22:=Lib.hid (H18.out.below hb21)
        clear hb21 H18
        go_wp2_with fail
        go_ret
        exact ⟨rfl,H22.out.bel⟩
      have h0 : ex = 0:=by have:=HPX.out; rw [reply_yes gx] at this; exact (congrArg Prod.snd this).symm
      subst h0
      by_cases gy : goodR u
      case neg =>
        have h2 : ey = 2:=by have:=HPY.out; rw [reply_no gy] at this; exact (congrArg Prod.snd this).symm
        subst h2
        go_wp2_with fail
        refine (HK.out _ (HE.out.below H18.out.bel)).mono ?_
        rintro e w20 ⟨rfl,hb21⟩
        clear z0 c0_0 c0_1 c0_2 c0_3 c0_4 c0_5 c0_6 z1 c1_0 c1_1 c1_2 c1_3 c1_4 c1_5 c1_6
        have H22:=Lib.hid (H18.out.below hb21)
        clear hb21 H18
        go_wp2_with fail
        go_ret
        exact ⟨rfl,H22.out.bel⟩
      have h0 : ey = 0:=by have:=HPY.out; rw [reply_yes gy] at this; exact (congrArg Prod.snd this).symm
      subst h0
      have hlx : lx = replyL r:=by have:=HPX.out; rw [reply_yes gx] at this; exact (congrArg Prod.fst this).symm
      have hly : ly = replyL u:=by have:=HPY.out; rw [reply_yes gy] at this; exact (congrArg Prod.fst this).symm
      have hdx : SX.data.toList = replyL r:=by rw [← HSX.out,← hlx]
      have hdy : SY.data.toList = replyL u:=by rw [← HSY.out,← hly]
      have HPB:=keep (list_bytes SX (by rw [hdx]; exact reply_plain (HOX.out (by trivial)) gx))
      obtain ⟨hh1,hh2⟩:=tells_head gx SX hdx
      have HB:=keep (show (SX.toList == SY.toList) = eqR r u from by
        rw [Bool.eq_iff_iff,beq_iff_eq,eqR_iff,toL,toL,hdx,hdy]
        exact ⟨fun h => reply_inj (HOX.out (by trivial)) (HOY.out (by trivial)) gx gy h,fun h => by rw [h]⟩)
      rw [← HCD.out] at hh2
      obtain ⟨B,hB⟩ : ∃ b,eqR r u = b:=⟨_,rfl⟩
      rw [hB] at HB EQ
      obtain ⟨Z,hZ⟩ : ∃ b,((xc : Int) == 0) = b:=⟨_,rfl⟩
      rw [hZ] at hh2
      have HZ:=keep (And.intro hh2 hZ)
      have HLN:=keep hh1
      have hsz : SX.size ≤ 140737488355328:=by rw [← sizeLn,hdx]; exact (reply_le (HOX.out (by trivial)) gx).2
      have HSL:=keep hsz
      clear hsz hB hZ hh1 hh2 hlx hly hdx hdy gx gy
      obtain ⟨sx,hsx⟩ : ∃ n,SX.size = n:=⟨_,rfl⟩
      have HSZ:=keep hsx
      clear z0 c0_0 c0_1 c0_2 c0_3 c0_4 c0_5 c0_6 z1 c1_0 c1_1 c1_2 c1_3 c1_4 c1_5 c1_6
      clear hsx
      go_wp2_with fail
      go_loopw [9] (fun iv wr => ∃ k : Nat,k ≤ SX.size ∧ iv = .int .i64 (k : Int) ∧ Hid (Ok w [kBlk (w.heap.size + 1) 26 [.int .u8 (yc : Nat),.int .i64 yat,.slice yga ygn ygc,.string yTX,.slice yea yen yec,.slice yra yrn yrc,.int .i64 yct],kBlk (w.heap.size) 26 [.int .u8 (xc : Nat),.int .i64 xat,.slice xga xgn xgc,.string xTX,.slice xea xen xec,.slice xra xrn xrc,.int .i64 xct]] wr)) (fun iv _ => SX.size - (intOf iv).toNat)
      case atStart => exact ⟨0,Nat.zero_le _,rfl,H18⟩
      case round =>
        clear H18
        obtain ⟨k,hk,rfl,HR⟩:=hrel
        obtain ⟨wp,rfl⟩ : ∃ wz : World,wz = wr:=⟨_,rfl⟩
        by_cases hlt : (k : Int) < SX.size
        · have hks : k < SX.size:=by omega
          have hb:=HPB.out k hks
          have hb1:=hb.1
          have hsl:=HSL.out
          have hb2:=hb.2
          clear hb
          go_wp2_with fail
          go_roundw
          case rel => exact ⟨k + 1,by omega,by go_num,HR⟩
          case measure => simp [intOf]; omega
        · have F20:=HR.out.sees
          simp only [sees,kBlk,cellsAt,Nat.reduceAdd] at F20
          obtain ⟨⟨ze0,ce0_0,ce0_1,ce0_2,ce0_3,ce0_4,ce0_5,ce0_6,-⟩,⟨ze1,ce1_0,ce1_1,ce1_2,ce1_3,ce1_4,ce1_5,ce1_6,-⟩,-⟩:=F20
          have hge : ((SX.size : Int) ≥ 3):=by have:=HLN.out; omega
          have hz1:=HZ.out.1
          have hz2:=HZ.out.2
          have hbb:=HB.out
          go_upto_region 12 with fail
          refine wp_region_held_drew (S:=fun W => Ok w [kBlk (w.heap.size + 1) 26 [.int .u8 (yc : Nat),.int .i64 yat,.slice yga ygn ygc,.string yTX,.slice yea yen yec,.slice yra yrn yrc,.int .i64 yct],kBlk (w.heap.size) 26 [.int .u8 (xc : Nat),.int .i64 xat,.slice xga xgn xgc,.string xTX,.slice xea xen xec,.slice xra xrn xrc,.int .i64 xct]] W) (by kernel_rfl) HR.out.drew (fun hHeld => ?_)
          refine wpAnyH_take (i:=0) (v:=?vx1_0) rfl (by kernel_rfl) (by kernel_rfl) (by kernel_rfl) (fun _ _ _ h => h) (Or.inl ⟨by rfl,?hyx1_0⟩) (by assumption) ?restx1_0
          case hyx1_0 => (intro w hSw; have F:=Ok.sees hSw; clear hSw; simp only [sees,kBlk,cellsAt,Nat.reduceAdd] at F; go_simp; (try rw [if_pos (by omega)]); try with_reducible rfl)
          try simp only [Act.put,List.setIfInBounds_toArray,List.set_cons_zero,List.set_cons_succ,List.getElem_toArray,List.getElem_cons_zero]
          refine wpAnyH_take (i:=1) (v:=?vx2_1) rfl (by kernel_rfl) (by kernel_rfl) (by kernel_rfl) (fun _ _ _ h => h) (Or.inl ⟨by rfl,?hyx2_1⟩) (by assumption) ?restx2_1
          case hyx2_1 => (intro w hSw; have F:=Ok.sees hSw; clear hSw; simp only [sees,kBlk,cellsAt,Nat.reduceAdd] at F; go_simp; (try rw [if_pos (by omega)]); try with_reducible rfl)
          try simp only [Act.put,List.setIfInBounds_toArray,List.set_cons_zero,List.set_cons_succ,List.getElem_toArray,List.getElem_cons_succ,List.getElem_cons_zero]
          refine wpAnyH_take (i:=2) (v:=?vx3_2) rfl (by kernel_rfl) (by kernel_rfl) (by kernel_rfl) (fun _ _ _ h => h) (Or.inl ⟨by rfl,?hyx3_2⟩) (by assumption) ?restx3_2
          case hyx3_2 => (intro w hSw; have F:=Ok.sees hSw; clear hSw; simp only [sees,kBlk,cellsAt,Nat.reduceAdd] at F; go_simp; (try rw [if_pos (by omega)]); try with_reducible rfl)
          try simp only [Act.put,List.setIfInBounds_toArray,List.set_cons_zero,List.set_cons_succ,List.getElem_toArray,List.getElem_cons_succ,List.getElem_cons_zero]
          refine wpAnyH_take (i:=3) (v:=?vx4_3) rfl (by kernel_rfl) (by kernel_rfl) (by kernel_rfl) (fun _ _ _ h => h) (Or.inl ⟨by rfl,?hyx4_3⟩) (by assumption) ?restx4_3
          case hyx4_3 => (intro w hSw; have F:=Ok.sees hSw; clear hSw; simp only [sees,kBlk,cellsAt,Nat.reduceAdd] at F; go_simp; (try rw [if_pos (by omega)]); try with_reducible rfl)
          try simp only [Act.put,List.setIfInBounds_toArray,List.set_cons_zero,List.set_cons_succ,List.getElem_toArray,List.getElem_cons_succ,List.getElem_cons_zero]
          refine wpAnyH_take (i:=4) (v:=?vx5_4) rfl (by kernel_rfl) (by kernel_rfl) (by kernel_rfl) (fun _ _ _ h => h) (Or.inl ⟨by rfl,?hyx5_4⟩) (by assumption) ?restx5_4
          case hyx5_4 => (intro w hSw; have F:=Ok.sees hSw; clear hSw; simp only [sees,kBlk,cellsAt,Nat.reduceAdd] at F; go_simp; (try rw [if_pos (by omega)]); try with_reducible rfl)
          try simp only [Act.put,List.setIfInBounds_toArray,List.set_cons_zero,List.set_cons_succ,List.getElem_toArray,List.getElem_cons_succ,List.getElem_cons_zero]
          refine wpAnyH_ready (rs:=[5]) (by kernel_rfl) (by simp) ?_
          refine AllReadyH.cons rfl (fun K hK => ?_) AllReadyH.nil
          go_simp
          refine (EQ.out (by trivial) (by trivial) _ (hHeld.bel)).mono ?_
          rintro e w22 ⟨rfl,hb23⟩
          go_wp2_with fail
          refine hK.out _ _ (hHeld.below hb23) (fun hHeld => ?_)
          clear hK K
          try simp only [Act.put,List.setIfInBounds_toArray,List.set_cons_zero,List.set_cons_succ,List.getElem_toArray,List.getElem_cons_succ,List.getElem_cons_zero]
          refine wpAnyH_take (i:=6) (v:=?vx6_6) rfl (by kernel_rfl) (by kernel_rfl) (by kernel_rfl) (fun _ _ _ h => h) (Or.inl ⟨by rfl,?hyx6_6⟩) (by assumption) ?restx6_6
          case hyx6_6 => (intro w hSw; have F:=Ok.sees hSw; clear hSw; simp only [sees,kBlk,cellsAt,Nat.reduceAdd] at F; go_simp; (try rw [if_pos (by omega)]); try with_reducible rfl)
          try simp only [Act.put,List.setIfInBounds_toArray,List.set_cons_zero,List.set_cons_succ,List.getElem_toArray,List.getElem_cons_succ,List.getElem_cons_zero]
          refine wpAnyH_take (i:=7) (v:=?vx7_7) rfl (by kernel_rfl) (by kernel_rfl) (by kernel_rfl) (fun _ _ _ h => h) (Or.inl ⟨by rfl,?hyx7_7⟩) (by assumption) ?restx7_7
          case hyx7_7 => (intro w hSw; have F:=Ok.sees hSw; clear hSw; simp only [sees,kBlk,cellsAt,Nat.reduceAdd] at F; go_simp; (try rw [if_pos (by omega)]); try with_reducible rfl)
          try simp only [Act.put,List.setIfInBounds_toArray,List.set_cons_zero,List.set_cons_succ,List.getElem_toArray,List.getElem_cons_succ,List.getElem_cons_zero]
          refine wpAnyH_take (i:=8) (v:=?vx8_8) rfl (by kernel_rfl) (by kernel_rfl) (by kernel_rfl) (fun _ _ _ h => h) (Or.inl ⟨by rfl,?hyx8_8⟩) (by assumption) ?restx8_8
          case hyx8_8 => (intro w hSw; have F:=Ok.sees hSw; clear hSw; simp only [sees,kBlk,cellsAt,Nat.reduceAdd] at F; go_simp; (try rw [if_pos (by omega)]); try with_reducible rfl)
          try simp only [Act.put,List.setIfInBounds_toArray,List.set_cons_zero,List.set_cons_succ,List.getElem_toArray,List.getElem_cons_succ,List.getElem_cons_zero]
          refine wpAnyH_take (i:=9) (v:=?vx9_9) rfl (by kernel_rfl) (by kernel_rfl) (by kernel_rfl) (fun _ _ _ h => h) (Or.inl ⟨by rfl,?hyx9_9⟩) (by assumption) ?restx9_9
          case hyx9_9 => (intro w hSw; have F:=Ok.sees hSw; clear hSw; simp only [sees,kBlk,cellsAt,Nat.reduceAdd] at F; go_simp; (try rw [if_pos (by omega)]); try with_reducible rfl)
          try simp only [Act.put,List.setIfInBounds_toArray,List.set_cons_zero,List.set_cons_succ,List.getElem_toArray,List.getElem_cons_succ,List.getElem_cons_zero]
          refine wpAnyH_take (i:=10) (v:=?vx10_10) rfl (by kernel_rfl) (by kernel_rfl) (by kernel_rfl) (fun _ _ _ h => h) (Or.inl ⟨by rfl,?hyx10_10⟩) (by assumption) ?restx10_10
          case hyx10_10 => (intro w hSw; have F:=Ok.sees hSw; clear hSw; simp only [sees,kBlk,cellsAt,Nat.reduceAdd] at F; go_simp; (try rw [if_pos (by omega)]); try with_reducible rfl)
          try simp only [Act.put,List.setIfInBounds_toArray,List.set_cons_zero,List.set_cons_succ,List.getElem_toArray,List.getElem_cons_succ,List.getElem_cons_zero]
          refine wpAnyH_take (i:=11) (v:=?vx11_11) rfl (by kernel_rfl) (by kernel_rfl) (by kernel_rfl) (fun _ _ _ h => h) (Or.inl ⟨by rfl,?hyx11_11⟩) (by assumption) ?restx11_11
          case hyx11_11 => (intro w hSw; have F:=Ok.sees hSw; clear hSw; simp only [sees,kBlk,cellsAt,Nat.reduceAdd] at F; go_simp; (try rw [if_pos (by omega)]); try with_reducible rfl)
          try simp only [Act.put,List.setIfInBounds_toArray,List.set_cons_zero,List.set_cons_succ,List.getElem_toArray,List.getElem_cons_succ,List.getElem_cons_zero]
          refine wpAnyH_take (i:=12) (v:=?vx12_12) rfl (by kernel_rfl) (by kernel_rfl) (by kernel_rfl) (fun _ _ _ h => h) (Or.inl ⟨by rfl,?hyx12_12⟩) (by assumption) ?restx12_12
          case hyx12_12 => (intro w hSw; have F:=Ok.sees hSw; clear hSw; simp only [sees,kBlk,cellsAt,Nat.reduceAdd] at F; go_simp; (try rw [if_pos (by omega)]); try with_reducible rfl)
          try simp only [Act.put,List.setIfInBounds_toArray,List.set_cons_zero,List.set_cons_succ,List.getElem_toArray,List.getElem_cons_succ,List.getElem_cons_zero]
          refine wpAnyH_take (i:=13) (v:=?vx13_13) rfl (by kernel_rfl) (by kernel_rfl) (by kernel_rfl) (fun _ _ _ h => h) (Or.inl ⟨by rfl,?hyx13_13⟩) (by assumption) ?restx13_13
          case hyx13_13 => (intro w hSw; have F:=Ok.sees hSw; clear hSw; simp only [sees,kBlk,cellsAt,Nat.reduceAdd] at F; go_simp; (try rw [if_pos (by omega)]); try with_reducible rfl)
          try simp only [Act.put,List.setIfInBounds_toArray,List.set_cons_zero,List.set_cons_succ,List.getElem_toArray,List.getElem_cons_succ,List.getElem_cons_zero]
          refine wpAnyH_take (i:=14) (v:=?vx14_14) rfl (by kernel_rfl) (by kernel_rfl) (by kernel_rfl) (fun _ _ _ h => h) (Or.inl ⟨by rfl,?hyx14_14⟩) (by assumption) ?restx14_14
          case hyx14_14 => (intro w hSw; have F:=Ok.sees hSw; clear hSw; simp only [sees,kBlk,cellsAt,Nat.reduceAdd] at F; go_simp; (try rw [if_pos (by omega)]); try with_reducible rfl)
          try simp only [Act.put,List.setIfInBounds_toArray,List.set_cons_zero,List.set_cons_succ,List.getElem_toArray,List.getElem_cons_succ,List.getElem_cons_zero]
          refine wpAnyH_take (i:=15) (v:=?vx15_15) rfl (by kernel_rfl) (by kernel_rfl) (by kernel_rfl) (fun _ _ _ h => h) (Or.inl ⟨by rfl,?hyx15_15⟩) (by assumption) ?restx15_15
          case hyx15_15 => (intro w hSw; have F:=Ok.sees hSw; clear hSw; simp only [sees,kBlk,cellsAt,Nat.reduceAdd] at F; go_simp; (try rw [if_pos (by omega)]); try with_reducible rfl)
          try simp only [Act.put,List.setIfInBounds_toArray,List.set_cons_zero,List.set_cons_succ,List.getElem_toArray,List.getElem_cons_succ,List.getElem_cons_zero]
          refine wpAnyH_take (i:=16) (v:=?vx16_16) rfl (by kernel_rfl) (by kernel_rfl) (by kernel_rfl) (fun _ _ _ h => h) (Or.inl ⟨by rfl,?hyx16_16⟩) (by assumption) ?restx16_16
          case hyx16_16 => (intro w hSw; have F:=Ok.sees hSw; clear hSw; simp only [sees,kBlk,cellsAt,Nat.reduceAdd] at F; go_simp; (try rw [if_pos (by omega)]); try with_reducible rfl)
          try simp only [Act.put,List.setIfInBounds_toArray,List.set_cons_zero,List.set_cons_succ,List.getElem_toArray,List.getElem_cons_succ,List.getElem_cons_zero]
          refine wpAnyH_take (i:=17) (v:=?vx17_17) rfl (by kernel_rfl) (by kernel_rfl) (by kernel_rfl) (fun _ _ _ h => h) (Or.inl ⟨by rfl,?hyx17_17⟩) (by assumption) ?restx17_17
          case hyx17_17 => (intro w hSw; have F:=Ok.sees hSw; clear hSw; simp only [sees,kBlk,cellsAt,Nat.reduceAdd] at F; go_simp; (try rw [if_pos (by omega)]); try with_reducible rfl)
          try simp only [Act.put,List.setIfInBounds_toArray,List.set_cons_zero,List.set_cons_succ,List.getElem_toArray,List.getElem_cons_succ,List.getElem_cons_zero]
          refine wpAnyH_take (i:=18) (v:=?vx18_18) rfl (by kernel_rfl) (by kernel_rfl) (by kernel_rfl) (fun _ _ _ h => h) (Or.inl ⟨by rfl,?hyx18_18⟩) (by assumption) ?restx18_18
          case hyx18_18 => (intro w hSw; have F:=Ok.sees hSw; clear hSw; simp only [sees,kBlk,cellsAt,Nat.reduceAdd] at F; go_simp; (try rw [if_pos (by omega)]); try with_reducible rfl)
          try simp only [Act.put,List.setIfInBounds_toArray,List.set_cons_zero,List.set_cons_succ,List.getElem_toArray,List.getElem_cons_succ,List.getElem_cons_zero]
          refine wpAnyH_take (i:=19) (v:=?vx19_19) rfl (by kernel_rfl) (by kernel_rfl) (by kernel_rfl) (fun _ _ _ h => h) (Or.inl ⟨by rfl,?hyx19_19⟩) (by assumption) ?restx19_19
          case hyx19_19 => (intro w hSw; have F:=Ok.sees hSw; clear hSw; simp only [sees,kBlk,cellsAt,Nat.reduceAdd] at F; go_simp; (try rw [if_pos (by omega)]); try with_reducible rfl)
          try simp only [Act.put,List.setIfInBounds_toArray,List.set_cons_zero,List.set_cons_succ,List.getElem_toArray,List.getElem_cons_succ,List.getElem_cons_zero]
          refine wpAnyH_take (i:=20) (v:=?vx20_20) rfl (by kernel_rfl) (by kernel_rfl) (by kernel_rfl) (fun _ _ _ h => h) (Or.inl ⟨by rfl,?hyx20_20⟩) (by assumption) ?restx20_20
          case hyx20_20 => (intro w hSw; have F:=Ok.sees hSw; clear hSw; simp only [sees,kBlk,cellsAt,Nat.reduceAdd] at F; go_simp; (try rw [if_pos (by omega)]); try with_reducible rfl)
          try simp only [Act.put,List.setIfInBounds_toArray,List.set_cons_zero,List.set_cons_succ,List.getElem_toArray,List.getElem_cons_succ,List.getElem_cons_zero]
          refine wpAnyH_take (i:=21) (v:=?vx21_21) rfl (by kernel_rfl) (by kernel_rfl) (by kernel_rfl) (fun _ _ _ h => h) (Or.inl ⟨by rfl,?hyx21_21⟩) (by assumption) ?restx21_21
          case hyx21_21 => (intro w hSw; have F:=Ok.sees hSw; clear hSw; simp only [sees,kBlk,cellsAt,Nat.reduceAdd] at F; go_simp; (try rw [if_pos (by omega)]); try with_reducible rfl)
          try simp only [Act.put,List.setIfInBounds_toArray,List.set_cons_zero,List.set_cons_succ,List.getElem_toArray,List.getElem_cons_succ,List.getElem_cons_zero]
          refine wpAnyH_take (i:=22) (v:=?vx22_22) rfl (by kernel_rfl) (by kernel_rfl) (by kernel_rfl) (fun _ _ _ h => h) (Or.inl ⟨by rfl,?hyx22_22⟩) (by assumption) ?restx22_22
          case hyx22_22 => (intro w hSw; have F:=Ok.sees hSw; clear hSw; simp only [sees,kBlk,cellsAt,Nat.reduceAdd] at F; go_simp; (try rw [if_pos (by omega)]); try with_reducible rfl)
          try simp only [Act.put,List.setIfInBounds_toArray,List.set_cons_zero,List.set_cons_succ,List.getElem_toArray,List.getElem_cons_succ,List.getElem_cons_zero]
          refine wpAnyH_take (i:=23) (v:=?vx23_23) rfl (by kernel_rfl) (by kernel_rfl) (by kernel_rfl) (fun _ _ _ h => h) (Or.inl ⟨by rfl,?hyx23_23⟩) (by assumption) ?restx23_23
          case hyx23_23 => (intro w hSw; have F:=Ok.sees hSw; clear hSw; simp only [sees,kBlk,cellsAt,Nat.reduceAdd] at F; go_simp; (try rw [if_pos (by omega)]); try with_reducible rfl)
          try simp only [Act.put,List.setIfInBounds_toArray,List.set_cons_zero,List.set_cons_succ,List.getElem_toArray,List.getElem_cons_succ,List.getElem_cons_zero]
          refine wpAnyH_take (i:=24) (v:=?vx24_24) rfl (by kernel_rfl) (by kernel_rfl) (by kernel_rfl) (fun _ _ _ h => h) (Or.inl ⟨by rfl,?hyx24_24⟩) (by assumption) ?restx24_24
          case hyx24_24 => (intro w hSw; have F:=Ok.sees hSw; clear hSw; simp only [sees,kBlk,cellsAt,Nat.reduceAdd] at F; go_simp; (try rw [if_pos (by omega)]); try with_reducible rfl)
          try simp only [Act.put,List.setIfInBounds_toArray,List.set_cons_zero,List.set_cons_succ,List.getElem_toArray,List.getElem_cons_succ,List.getElem_cons_zero]
          refine wpAnyH_ready (rs:=[25]) (by kernel_rfl) (by simp) ?_
          refine AllReadyH.cons rfl (fun K hK => ?_) AllReadyH.nil
          go_simp
          refine (HK.out _ (HE.out.below (hHeld.bel))).mono ?_
          rintro e w24 ⟨rfl,hb25⟩
          go_wp2_with fail
          refine hK.out _ _ (hHeld.below hb25) (fun hHeld => ?_)
          clear hK K
          try simp only [Act.put,List.setIfInBounds_toArray,List.set_cons_zero,List.set_cons_succ,List.getElem_toArray,List.getElem_cons_succ,List.getElem_cons_zero]
          refine wpAnyH_take (i:=26) (v:=?vx25_26) rfl (by kernel_rfl) (by kernel_rfl) (by kernel_rfl) (fun _ _ _ h => h) (Or.inl ⟨by rfl,?hyx25_26⟩) (by assumption) ?restx25_26
          case hyx25_26 => (intro w hSw; have F:=Ok.sees hSw; clear hSw; simp only [sees,kBlk,cellsAt,Nat.reduceAdd] at F; go_simp; (try rw [if_pos (by omega)]); try with_reducible rfl)
          try simp only [Act.put,List.setIfInBounds_toArray,List.set_cons_zero,List.set_cons_succ,List.getElem_toArray,List.getElem_cons_succ,List.getElem_cons_zero]
          refine wpAnyH_take (i:=27) (v:=?vx26_27) rfl (by kernel_rfl) (by kernel_rfl) (by kernel_rfl) (fun _ _ _ h => h) (Or.inl ⟨by rfl,?hyx26_27⟩) (by assumption) ?restx26_27
          case hyx26_27 => (intro w hSw; have F:=Ok.sees hSw; clear hSw; simp only [sees,kBlk,cellsAt,Nat.reduceAdd] at F; go_simp; (try rw [if_pos (by omega)]); try with_reducible rfl)
          try simp only [Act.put,List.setIfInBounds_toArray,List.set_cons_zero,List.set_cons_succ,List.getElem_toArray,List.getElem_cons_succ,List.getElem_cons_zero]
          refine wpAnyH_done (by kernel_rfl) ?_ _
          clear ze0 ce0_0 ce0_1 ce0_2 ce0_3 ce0_4 ce0_5 ce0_6 ze1 ce1_0 ce1_1 ce1_2 ce1_3 ce1_4 ce1_5 ce1_6
          clear HR
          have H26:=Lib.hid hHeld
          clear hHeld
          go_wp2_with fail
          go_ret
          exact ⟨rfl,H26.out.bel⟩
    · go_wp2_with fail
      refine (HK.out _ (HE.out.below H10.out.bel)).mono ?_
      rintro e w12 ⟨rfl,hb13⟩
      clear z0 c0_0 c0_1 c0_2 c0_3 c0_4 c0_5 c0_6 z1 c1_0 c1_1 c1_2 c1_3 c1_4 c1_5 c1_6
      have H14:=Lib.hid (H10.out.below hb13)
      clear hb13 H10
      go_wp2_with fail
      go_ret
      exact ⟨rfl,H14.out.bel⟩
  · go_wp2_with fail
    refine (HK.out _ (HE.out.below H6.out.bel)).mono ?_
    rintro e w8 ⟨rfl,hb9⟩
    clear z0 c0_0 c0_1 c0_2 c0_3 c0_4 c0_5 c0_6 z1 c1_0 c1_1 c1_2 c1_3 c1_4 c1_5 c1_6
    have H10:=Lib.hid (H6.out.below hb9)
    clear hb9 H6
    go_wp2_with fail
    go_ret
    exact ⟨rfl,H10.out.bel⟩
end Go.Proofs.YtmalncmdfmoccaaGreatDoor
