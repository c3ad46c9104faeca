/- The reference of chapter 29: fields. -/
import Derived.Test.YtjbimcdofenmdaaGreatDoorMGrpQ
import Derived.Test.YtjbimcdofenmdaaGreatDoorROrL
import Derived.Test.YtjbimcdofenmdaaGreatDoorMGrpS
namespace Go.Proofs.YtjbimcdofenmdaaGreatDoor
open Go.RowKit
theorem readR_small (s : List UInt8) (m : Nat) (h : readR s = some m) : m < 18446744073709551616:=by
 unfold readR at h
 cases h1 : runR (0,none,none) (s ++ [44]) with
 | none => rw [h1] at h; cases h
 | some st => rw [h1] at h; obtain rfl:=Option.some.inj h; exact (runR_ok _ _ _ okR_start h1).1
theorem join_flat (ws : List (List UInt8)) (hn : ws ≠ []) : Lib.join ws [44] ++ [44] = flatW ws:=by
 induction ws with
 | nil => exact absurd rfl hn
 | cons x r ih =>
  cases r with
  | nil => rw [Lib.join_one]; simp [flatW]
  | cons y r =>
   have e : Lib.join (x :: y :: r) [44] = x ++ 44 :: Lib.join (y :: r) [44]:=by rw [Lib.join_cons,Lib.join_cons]; simp [Lib.joinTail]
   rw [e]
   have:=ih (by simp)
   show x ++ 44 :: Lib.join (y :: r) [44] ++ [44] = (x ++ [44]) ++ flatW (y :: r)
   rw [← this]
   simp
theorem readR_text (s : Nat) (hs : s < 18446744073709551616) (h0 : s ≠ 0) : readR (textW s 64) = some s:=by
 rw [readR,textW,join_flat _ (wordsF_some s hs h0),(read_all s hs).2]
 rfl
theorem parseR_back (s : Nat) (hs : s < 18446744073709551616) : gparseR (gfmtL s) = (s,0):=by
 by_cases h0 : s = 0
 ·subst h0; rfl
 by_cases h1 : s = 18446744073709551615
 ·subst h1; rfl
 have e:=readR_text s hs h0
 rw [← fmtL_mid s h0 h1] at e
 have n1 : gfmtL s ≠ [45]:=fun c => by rw [c,show readR [45] = none from by decide +kernel] at e; cases e
 have n2 : gfmtL s ≠ [42]:=fun c => by rw [c,show readR [42] = none from by decide +kernel] at e; cases e
 unfold gparseR
 rw [if_neg n1,if_neg n2,e]
 simp
theorem parseR_cases (s : List UInt8) : gparseR s = (0,4) ∨ ∃ t,t < 18446744073709551616 ∧ gfmtL t = s ∧ gparseR s = (t,0):=by
 unfold gparseR
 split
 ·next h => exact .inr ⟨0,by decide,by rw [h]; rfl,rfl⟩
 split
 ·next h => exact .inr ⟨18446744073709551615,by decide,by rw [h]; rfl,rfl⟩
 split
 ·exact .inl rfl
 ·next z hz =>
  split
  ·next h => exact .inr ⟨z,readR_small _ _ hz,h,rfl⟩
  ·exact .inl rfl
theorem parse_same (s : List UInt8) : gparseG s = gparseR s:=by
 rcases parseG_cases s with h | ⟨t,ht,e,h⟩
 ·rcases parseR_cases s with h2 | ⟨t,ht,e,h2⟩
  ·rw [h,h2]
  ·have:=parseG_back t ht
   rw [e,h] at this
   simp at this
 ·have:=parseR_back t ht
  rw [e] at this
  rw [h,this]
def WordsOf (k : Nat) (L : List (List UInt8)) (y : OpV) : Prop:=∃ r,L = Lib.itoa y.user :: ((if usesR k = true then [rangeL y.rect] else []) ++ r) ∧ (k ≠ 3 → r = tailW y)
def FldOut (k : Nat) (L : List (List UInt8)) (w : World) (e : Ending) (w' : World) : Prop:=∃ x : OpV,e = .returned x.V ∧ x.Ok ∧ x.kind = k ∧ x.input = [] ∧ (∀ y : OpV,y.Ok → goodV y → y.kind = k → WordsOf k L y → x = { y with input:=[] }) ∧ Below w.heap.size w w'
theorem fld_eq (x y : OpV) (gy : goodV y) (hk : x.kind = y.kind) (hu : x.user = y.user) (hr : x.rect = if usesR y.kind = true then y.rect else R4.zero) (hi : x.input = []) (h1 : x.rd = if y.kind = 7 then y.rd else 0) (h2 : x.wr = if y.kind = 7 then y.wr else 0) (h3 : x.ow = if y.kind = 7 then y.ow else 0) (h4 : x.fns = if y.kind = 8 then y.fns else 0) (h5 : x.tg = if y.kind = 8 then y.tg else 0) (h6 : x.idx = if y.kind = 9 then y.idx else 0) : x = { y with input:=[] }:=by
 have hp:=gy.2.2.1
 unfold plainV at hp
 rw [if_pos ⟨gy.1,gy.2.1⟩] at hp
 obtain ⟨k,u,r,inp,a,b,c,f,t,n⟩:=x
 obtain ⟨k2,u2,r2,inp2,a2,b2,c2,f2,t2,n2⟩:=y
 simp only [OpV.mk.injEq,true_and] at hp hk hu hr hi h1 h2 h3 h4 h5 h6 ⊢
 obtain ⟨p0,p1,p2,p3,p4,p5,p6,p7⟩:=hp
 exact ⟨hk,hu,hr.trans p0,hi,h1.trans p2,h2.trans p3,h3.trans p4,h4.trans p5,h5.trans p6,h6.trans p7⟩
theorem z64 : (0 : Nat) < 18446744073709551616:=by decide
theorem z256 : (0 : Nat) < 256:=by decide
theorem i64_z : i64B 0:=⟨by decide,by decide⟩
theorem kc_nil {w : World} {g o : Nat} {cs ds : List Value} (h : (kCells g o (cs ++ ds)).p w) : (kCells g o cs).p w:=by
 refine ⟨h.1,?_⟩
 have key : ∀ (cs : List Value) (i : Nat),cellsFrom w g o i (cs ++ ds) → cellsFrom w g o i cs:=by
  intro cs
  induction cs with
  | nil => intro i _; trivial
  | cons c cs ih => intro i h; exact ⟨h.1,ih (i + 1) h.2⟩
 exact key cs 0 h.2
def gpV (l : List UInt8) : Nat:=(gparseR l).1
theorem gp_lt (l : List UInt8) : gpV l < 18446744073709551616:=by
 unfold gpV
 rcases parseR_cases l with h | ⟨t,ht,-,h⟩
 ·rw [h]; exact (by decide : (0 : Nat) < 18446744073709551616)
 ·rw [h]; exact ht
theorem gp_set (s : Nat) (hs : s < 18446744073709551616) : gpV (gfmtL s) = s:=by
 unfold gpV; rw [← parse_same,parseG_back s hs]
theorem r18_Prs (l : List UInt8) (hl : l.length ≤ 2000) (w : World) : Calls Tryz.prog 66 #[.string (byt l)] w fun e w' => e = .returned (.tuple #[.int .u64 (gpV l : Nat),.int .i64 (gparseR l).2]) ∧ Below w.heap.size w w':=by
 refine (ref18_Parse (byt l) w (by show l.length ≤ _; omega)).mono ?_
 rintro e w' ⟨rfl,rfl⟩
 exact ⟨rfl,Below.refl _ _⟩
set_option maxRecDepth 100000 in
set_option maxHeartbeats 4000000 in
theorem r9_fld_1 (g o n c : Nat) (a1 : List UInt8) (rest : List (List UInt8)) (w : World) (hk : (kCells g o [.string (byt a1)]).p w) (_hnc : n ≤ c) (hn : n = (a1 :: rest).length) (hL : ∀ p ∈ a1 :: rest,p.length ≤ 2000) :
  Calls Tryz.prog 42 #[.int .u8 1,.slice (some ⟨g,o,none⟩) n c] w (FldOut 1 (a1 :: rest) w):=by
 have hg : g < w.heap.size:=hk.1
 simp only [List.length_cons] at hn
 have hb2 : (bits BinOp.and IntKind.i64 1 2 != 0) = false:=by decide
 have HN0:=keep hn
 have gn1 : 1 ≤ n:=by omega
 have H1:=Lib.hid ((((Ok.start w).add (kCells g o [.string (byt a1)]) hk).var w.heap.size 28 [.int .u8 0,.int .i64 0,.int .i64 0,.int .i64 0,.int .i64 0,.int .i64 0,.string ⟨#[]⟩,.int .u64 0,.int .u64 0,.int .u64 0,.int .u8 0,.int .u64 0,.int .i64 0] rfl).var (w.heap.size + 1) 28 [.int .u8 1,.int .i64 0,.int .i64 0,.int .i64 0,.int .i64 0,.int .i64 0,.string ⟨#[]⟩,.int .u64 0,.int .u64 0,.int .u64 0,.int .u8 0,.int .u64 0,.int .i64 0] (by simp))
 have ha1 : a1.length ≤ 2000:=hL a1 (by simp)
 have HN1:=keep (fun W => r9_ReadNumber (byt a1) ha1 W)
 clear hL hk ha1
 obtain ⟨rl,hrl⟩ : ∃ rl,rest.length = rl:=⟨_,rfl⟩
 rw [hrl] at hn
 clear hrl
 go_enter Tryz.func42,Tryz.ntmps42
 go_upto_region 2 with fail
 generalize ((w.alloc (.cells #[.int .u8 0,.int .i64 0,.int .i64 0,.int .i64 0,.int .i64 0,.int .i64 0,.string ⟨#[]⟩,.int .u64 0,.int .u64 0,.int .u64 0,.int .u8 0,.int .u64 0,.int .i64 0] 28)).alloc (.cells #[.int .u8 1,.int .i64 0,.int .i64 0,.int .i64 0,.int .i64 0,.int .i64 0,.string ⟨#[]⟩,.int .u64 0,.int .u64 0,.int .u64 0,.int .u8 0,.int .u64 0,.int .i64 0] 28)) = W2 at H1 ⊢
 have F3:=H1.out.sees
 simp only [sees,kVar,kCells,cellsFrom,Nat.add_zero,cellsAt,Nat.reduceAdd] at F3
 obtain ⟨⟨⟨z0,fz0⟩,q00,q01,q02,q03,q04,q05,q06,q07,q08,q09,q0a,q0b,q0c,-⟩,⟨⟨z1,fz1⟩,q10,q11,q12,q13,q14,q15,q16,q17,q18,q19,q1a,q1b,q1c,-⟩,⟨z2,q20,-⟩,-⟩:=F3
 go_wp2_with fail
 refine (HN1.out _).mono ?_
 rintro e w4 ⟨v1,ok1,rfl,hv1,hq1,hb5⟩
 clear z0 fz0 q00 q01 q02 q03 q04 q05 q06 q07 q08 q09 q0a q0b q0c z1 fz1 q10 q11 q12 q13 q14 q15 q16 q17 q18 q19 q1a q1b q1c z2 q20
 have HV1:=keep hv1
 have HQ1:=keep hq1
 have H6:=Lib.hid (H1.out.below hb5)
 clear hb5 H1 hv1 hq1
 have F7:=H6.out.sees
 simp only [sees,kVar,kCells,cellsFrom,Nat.add_zero,cellsAt,Nat.reduceAdd] at F7
 obtain ⟨⟨⟨z0,fz0⟩,q00,q01,q02,q03,q04,q05,q06,q07,q08,q09,q0a,q0b,q0c,-⟩,⟨⟨z1,fz1⟩,q10,q11,q12,q13,q14,q15,q16,q17,q18,q19,q1a,q1b,q1c,-⟩,⟨z2,q20,-⟩,-⟩:=F7
 go_upto_region 3 with fail
 clear z0 fz0 q00 q01 q02 q03 q04 q05 q06 q07 q08 q09 q0a q0b q0c z1 fz1 q10 q11 q12 q13 q14 q15 q16 q17 q18 q19 q1a q1b q1c z2 q20
 have hfar:=farOf H6.out (by simp [kCells,kVar] <;> omega)
 have H8:=Lib.hid (H6.out.set_ (i:=1) (u:=.int .i64 v1) (by omega) hfar)
 simp only [List.set_cons_zero,List.set_cons_succ] at H8
 clear hfar
 clear H6
 generalize (w4.setCell ⟨w.heap.size + 1,1,none⟩ (.int .i64 v1)) = W9 at H8 ⊢
 have F10:=H8.out.sees
 simp only [sees,kVar,kCells,cellsFrom,Nat.add_zero,cellsAt,Nat.reduceAdd] at F10
 obtain ⟨⟨⟨z0,fz0⟩,q00,q01,q02,q03,q04,q05,q06,q07,q08,q09,q0a,q0b,q0c,-⟩,⟨⟨z1,fz1⟩,q10,q11,q12,q13,q14,q15,q16,q17,q18,q19,q1a,q1b,q1c,-⟩,⟨z2,q20,-⟩,-⟩:=F10
 go_wp2_with fail
 refine (r9_uses_1 _).mono ?_
 rintro e w11 ⟨rfl,hb12⟩
 clear z0 fz0 q00 q01 q02 q03 q04 q05 q06 q07 q08 q09 q0a q0b q0c z1 fz1 q10 q11 q12 q13 q14 q15 q16 q17 q18 q19 q1a q1b q1c z2 q20
 have H13:=Lib.hid (H8.out.below hb12)
 clear hb12 H8
 have F14:=H13.out.sees
 simp only [sees,kVar,kCells,cellsFrom,Nat.add_zero,cellsAt,Nat.reduceAdd] at F14
 obtain ⟨⟨⟨z0,fz0⟩,q00,q01,q02,q03,q04,q05,q06,q07,q08,q09,q0a,q0b,q0c,-⟩,⟨⟨z1,fz1⟩,q10,q11,q12,q13,q14,q15,q16,q17,q18,q19,q1a,q1b,q1c,-⟩,⟨z2,q20,-⟩,-⟩:=F14
 go_upto_region 15 with fail
 go_wp2_with fail
 clear z0 fz0 q00 q01 q02 q03 q04 q05 q06 q07 q08 q09 q0a q0b q0c z1 fz1 q10 q11 q12 q13 q14 q15 q16 q17 q18 q19 q1a q1b q1c z2 q20
 have hfar:=farOf H13.out.b1 (by simp [kCells,kVar] <;> omega)
 have H15:=Lib.hid (((((((((((((H13.out.b1.set_ (i:=0) (u:=.int .u8 1) (by omega) hfar).set_ (i:=1) (u:=.int .i64 v1) (by omega) hfar).set_ (i:=2) (u:=.int .i64 0) (by omega) hfar).set_ (i:=3) (u:=.int .i64 0) (by omega) hfar).set_ (i:=4) (u:=.int .i64 0) (by omega) hfar).set_ (i:=5) (u:=.int .i64 0) (by omega) hfar).set_ (i:=6) (u:=.string ⟨#[]⟩) (by omega) hfar).set_ (i:=7) (u:=.int .u64 0) (by omega) hfar).set_ (i:=8) (u:=.int .u64 0) (by omega) hfar).set_ (i:=9) (u:=.int .u64 0) (by omega) hfar).set_ (i:=10) (u:=.int .u8 0) (by omega) hfar).set_ (i:=11) (u:=.int .u64 0) (by omega) hfar).set_ (i:=12) (u:=.int .i64 0) (by omega) hfar)
 simp only [List.set_cons_zero,List.set_cons_succ] at H15
 clear hfar
 have hK:=H15.out.get (kVar (w.heap.size) 28 [.int .u8 1,.int .i64 v1,.int .i64 0,.int .i64 0,.int .i64 0,.int .i64 0,.string ⟨#[]⟩,.int .u64 0,.int .u64 0,.int .u64 0,.int .u8 0,.int .u64 0,.int .i64 0]) (by simp)
 have hE:=(show Blk (((((((((((((w11.setCell ⟨w.heap.size,0,none⟩ (.int .u8 1)).setCell ⟨w.heap.size,1,none⟩ (.int .i64 v1)).setCell ⟨w.heap.size,2,none⟩ (.int .i64 0)).setCell ⟨w.heap.size,3,none⟩ (.int .i64 0)).setCell ⟨w.heap.size,4,none⟩ (.int .i64 0)).setCell ⟨w.heap.size,5,none⟩ (.int .i64 0)).setCell ⟨w.heap.size,6,none⟩ (.string ⟨#[]⟩)).setCell ⟨w.heap.size,7,none⟩ (.int .u64 0)).setCell ⟨w.heap.size,8,none⟩ (.int .u64 0)).setCell ⟨w.heap.size,9,none⟩ (.int .u64 0)).setCell ⟨w.heap.size,10,none⟩ (.int .u8 0)).setCell ⟨w.heap.size,11,none⟩ (.int .u64 0)).setCell ⟨w.heap.size,12,none⟩ (.int .i64 0)) (w.heap.size) 28 _ from hK)
 have r0:=hE.cell 0
 have r1:=hE.cell 1
 have r2:=hE.cell 2
 have r3:=hE.cell 3
 have r4:=hE.cell 4
 have r5:=hE.cell 5
 have r6:=hE.cell 6
 have r7:=hE.cell 7
 have r8:=hE.cell 8
 have r9:=hE.cell 9
 have r10:=hE.cell 10
 have r11:=hE.cell 11
 have r12:=hE.cell 12
 simp at r0 r1 r2 r3 r4 r5 r6 r7 r8 r9 r10 r11 r12
 exact bodyPost_ret (v:=.agg #[.int .u8 1,.int .i64 v1,.int .i64 0,.int .i64 0,.int .i64 0,.int .i64 0,.string ⟨#[]⟩,.int .u64 0,.int .u64 0,.int .u64 0,.int .u8 0,.int .u64 0,.int .i64 0]) (by simp [results,Tryz.results42,go_sem,r0,r1,r2,r3,r4,r5,r6,r7,r8,r9,r10,r11,r12]) rfl ⟨(⟨1,v1,R4.zero,[],0,0,0,0,0,0⟩ : OpV),rfl,⟨(show 1 < 256 by decide),HV1.out,i64_z,i64_z,i64_z,i64_z,z64,z64,z64,z256,z64,i64_z⟩,rfl,rfl,(fun y oy gy hky hw => by
   obtain ⟨r,e,hr⟩:=hw
   obtain ⟨e1,e2⟩:=List.cons.inj e
   exact fld_eq _ y gy hky.symm (HQ1.out y.user oy.user e1) (by rw [hky]; rfl) rfl (by rw [hky]; rfl) (by rw [hky]; rfl) (by rw [hky]; rfl) (by rw [hky]; rfl) (by rw [hky]; rfl) (by rw [hky]; rfl)),H15.out.bel⟩
set_option maxRecDepth 100000 in
set_option maxHeartbeats 4000000 in
theorem r9_fld_2 (g o n c : Nat) (a1 : List UInt8) (rest : List (List UInt8)) (w : World) (hk : (kCells g o [.string (byt a1)]).p w) (_hnc : n ≤ c) (hn : n = (a1 :: rest).length) (hL : ∀ p ∈ a1 :: rest,p.length ≤ 2000) :
  Calls Tryz.prog 42 #[.int .u8 2,.slice (some ⟨g,o,none⟩) n c] w (FldOut 2 (a1 :: rest) w):=by
 have hg : g < w.heap.size:=hk.1
 simp only [List.length_cons] at hn
 have hb2 : (bits BinOp.and IntKind.i64 1 2 != 0) = false:=by decide
 have HN0:=keep hn
 have gn1 : 1 ≤ n:=by omega
 have H1:=Lib.hid ((((Ok.start w).add (kCells g o [.string (byt a1)]) hk).var w.heap.size 28 [.int .u8 0,.int .i64 0,.int .i64 0,.int .i64 0,.int .i64 0,.int .i64 0,.string ⟨#[]⟩,.int .u64 0,.int .u64 0,.int .u64 0,.int .u8 0,.int .u64 0,.int .i64 0] rfl).var (w.heap.size + 1) 28 [.int .u8 2,.int .i64 0,.int .i64 0,.int .i64 0,.int .i64 0,.int .i64 0,.string ⟨#[]⟩,.int .u64 0,.int .u64 0,.int .u64 0,.int .u8 0,.int .u64 0,.int .i64 0] (by simp))
 have ha1 : a1.length ≤ 2000:=hL a1 (by simp)
 have HN1:=keep (fun W => r9_ReadNumber (byt a1) ha1 W)
 clear hL hk ha1
 obtain ⟨rl,hrl⟩ : ∃ rl,rest.length = rl:=⟨_,rfl⟩
 rw [hrl] at hn
 clear hrl
 go_enter Tryz.func42,Tryz.ntmps42
 go_upto_region 2 with fail
 generalize ((w.alloc (.cells #[.int .u8 0,.int .i64 0,.int .i64 0,.int .i64 0,.int .i64 0,.int .i64 0,.string ⟨#[]⟩,.int .u64 0,.int .u64 0,.int .u64 0,.int .u8 0,.int .u64 0,.int .i64 0] 28)).alloc (.cells #[.int .u8 2,.int .i64 0,.int .i64 0,.int .i64 0,.int .i64 0,.int .i64 0,.string ⟨#[]⟩,.int .u64 0,.int .u64 0,.int .u64 0,.int .u8 0,.int .u64 0,.int .i64 0] 28)) = W2 at H1 ⊢
 have F3:=H1.out.sees
 simp only [sees,kVar,kCells,cellsFrom,Nat.add_zero,cellsAt,Nat.reduceAdd] at F3
 obtain ⟨⟨⟨z0,fz0⟩,q00,q01,q02,q03,q04,q05,q06,q07,q08,q09,q0a,q0b,q0c,-⟩,⟨⟨z1,fz1⟩,q10,q11,q12,q13,q14,q15,q16,q17,q18,q19,q1a,q1b,q1c,-⟩,⟨z2,q20,-⟩,-⟩:=F3
 go_wp2_with fail
 refine (HN1.out _).mono ?_
 rintro e w4 ⟨v1,ok1,rfl,hv1,hq1,hb5⟩
 clear z0 fz0 q00 q01 q02 q03 q04 q05 q06 q07 q08 q09 q0a q0b q0c z1 fz1 q10 q11 q12 q13 q14 q15 q16 q17 q18 q19 q1a q1b q1c z2 q20
 have HV1:=keep hv1
 have HQ1:=keep hq1
 have H6:=Lib.hid (H1.out.below hb5)
 clear hb5 H1 hv1 hq1
 have F7:=H6.out.sees
 simp only [sees,kVar,kCells,cellsFrom,Nat.add_zero,cellsAt,Nat.reduceAdd] at F7
 obtain ⟨⟨⟨z0,fz0⟩,q00,q01,q02,q03,q04,q05,q06,q07,q08,q09,q0a,q0b,q0c,-⟩,⟨⟨z1,fz1⟩,q10,q11,q12,q13,q14,q15,q16,q17,q18,q19,q1a,q1b,q1c,-⟩,⟨z2,q20,-⟩,-⟩:=F7
 go_upto_region 3 with fail
 clear z0 fz0 q00 q01 q02 q03 q04 q05 q06 q07 q08 q09 q0a q0b q0c z1 fz1 q10 q11 q12 q13 q14 q15 q16 q17 q18 q19 q1a q1b q1c z2 q20
 have hfar:=farOf H6.out (by simp [kCells,kVar] <;> omega)
 have H8:=Lib.hid (H6.out.set_ (i:=1) (u:=.int .i64 v1) (by omega) hfar)
 simp only [List.set_cons_zero,List.set_cons_succ] at H8
 clear hfar
 clear H6
 generalize (w4.setCell ⟨w.heap.size + 1,1,none⟩ (.int .i64 v1)) = W9 at H8 ⊢
 have F10:=H8.out.sees
 simp only [sees,kVar,kCells,cellsFrom,Nat.add_zero,cellsAt,Nat.reduceAdd] at F10
 obtain ⟨⟨⟨z0,fz0⟩,q00,q01,q02,q03,q04,q05,q06,q07,q08,q09,q0a,q0b,q0c,-⟩,⟨⟨z1,fz1⟩,q10,q11,q12,q13,q14,q15,q16,q17,q18,q19,q1a,q1b,q1c,-⟩,⟨z2,q20,-⟩,-⟩:=F10
 go_wp2_with fail
 refine (r9_uses_2 _).mono ?_
 rintro e w11 ⟨rfl,hb12⟩
 clear z0 fz0 q00 q01 q02 q03 q04 q05 q06 q07 q08 q09 q0a q0b q0c z1 fz1 q10 q11 q12 q13 q14 q15 q16 q17 q18 q19 q1a q1b q1c z2 q20
 have H13:=Lib.hid (H8.out.below hb12)
 clear hb12 H8
 have F14:=H13.out.sees
 simp only [sees,kVar,kCells,cellsFrom,Nat.add_zero,cellsAt,Nat.reduceAdd] at F14
 obtain ⟨⟨⟨z0,fz0⟩,q00,q01,q02,q03,q04,q05,q06,q07,q08,q09,q0a,q0b,q0c,-⟩,⟨⟨z1,fz1⟩,q10,q11,q12,q13,q14,q15,q16,q17,q18,q19,q1a,q1b,q1c,-⟩,⟨z2,q20,-⟩,-⟩:=F14
 go_upto_region 15 with fail
 go_wp2_with fail
 clear z0 fz0 q00 q01 q02 q03 q04 q05 q06 q07 q08 q09 q0a q0b q0c z1 fz1 q10 q11 q12 q13 q14 q15 q16 q17 q18 q19 q1a q1b q1c z2 q20
 have hfar:=farOf H13.out.b1 (by simp [kCells,kVar] <;> omega)
 have H15:=Lib.hid (((((((((((((H13.out.b1.set_ (i:=0) (u:=.int .u8 2) (by omega) hfar).set_ (i:=1) (u:=.int .i64 v1) (by omega) hfar).set_ (i:=2) (u:=.int .i64 0) (by omega) hfar).set_ (i:=3) (u:=.int .i64 0) (by omega) hfar).set_ (i:=4) (u:=.int .i64 0) (by omega) hfar).set_ (i:=5) (u:=.int .i64 0) (by omega) hfar).set_ (i:=6) (u:=.string ⟨#[]⟩) (by omega) hfar).set_ (i:=7) (u:=.int .u64 0) (by omega) hfar).set_ (i:=8) (u:=.int .u64 0) (by omega) hfar).set_ (i:=9) (u:=.int .u64 0) (by omega) hfar).set_ (i:=10) (u:=.int .u8 0) (by omega) hfar).set_ (i:=11) (u:=.int .u64 0) (by omega) hfar).set_ (i:=12) (u:=.int .i64 0) (by omega) hfar)
 simp only [List.set_cons_zero,List.set_cons_succ] at H15
 clear hfar
 have hK:=H15.out.get (kVar (w.heap.size) 28 [.int .u8 2,.int .i64 v1,.int .i64 0,.int .i64 0,.int .i64 0,.int .i64 0,.string ⟨#[]⟩,.int .u64 0,.int .u64 0,.int .u64 0,.int .u8 0,.int .u64 0,.int .i64 0]) (by simp)
 have hE:=(show Blk (((((((((((((w11.setCell ⟨w.heap.size,0,none⟩ (.int .u8 2)).setCell ⟨w.heap.size,1,none⟩ (.int .i64 v1)).setCell ⟨w.heap.size,2,none⟩ (.int .i64 0)).setCell ⟨w.heap.size,3,none⟩ (.int .i64 0)).setCell ⟨w.heap.size,4,none⟩ (.int .i64 0)).setCell ⟨w.heap.size,5,none⟩ (.int .i64 0)).setCell ⟨w.heap.size,6,none⟩ (.string ⟨#[]⟩)).setCell ⟨w.heap.size,7,none⟩ (.int .u64 0)).setCell ⟨w.heap.size,8,none⟩ (.int .u64 0)).setCell ⟨w.heap.size,9,none⟩ (.int .u64 0)).setCell ⟨w.heap.size,10,none⟩ (.int .u8 0)).setCell ⟨w.heap.size,11,none⟩ (.int .u64 0)).setCell ⟨w.heap.size,12,none⟩ (.int .i64 0)) (w.heap.size) 28 _ from hK)
 have r0:=hE.cell 0
 have r1:=hE.cell 1
 have r2:=hE.cell 2
 have r3:=hE.cell 3
 have r4:=hE.cell 4
 have r5:=hE.cell 5
 have r6:=hE.cell 6
 have r7:=hE.cell 7
 have r8:=hE.cell 8
 have r9:=hE.cell 9
 have r10:=hE.cell 10
 have r11:=hE.cell 11
 have r12:=hE.cell 12
 simp at r0 r1 r2 r3 r4 r5 r6 r7 r8 r9 r10 r11 r12
 exact bodyPost_ret (v:=.agg #[.int .u8 2,.int .i64 v1,.int .i64 0,.int .i64 0,.int .i64 0,.int .i64 0,.string ⟨#[]⟩,.int .u64 0,.int .u64 0,.int .u64 0,.int .u8 0,.int .u64 0,.int .i64 0]) (by simp [results,Tryz.results42,go_sem,r0,r1,r2,r3,r4,r5,r6,r7,r8,r9,r10,r11,r12]) rfl ⟨(⟨2,v1,R4.zero,[],0,0,0,0,0,0⟩ : OpV),rfl,⟨(show 2 < 256 by decide),HV1.out,i64_z,i64_z,i64_z,i64_z,z64,z64,z64,z256,z64,i64_z⟩,rfl,rfl,(fun y oy gy hky hw => by
   obtain ⟨r,e,hr⟩:=hw
   obtain ⟨e1,e2⟩:=List.cons.inj e
   exact fld_eq _ y gy hky.symm (HQ1.out y.user oy.user e1) (by rw [hky]; rfl) rfl (by rw [hky]; rfl) (by rw [hky]; rfl) (by rw [hky]; rfl) (by rw [hky]; rfl) (by rw [hky]; rfl) (by rw [hky]; rfl)),H15.out.bel⟩
set_option maxRecDepth 100000 in
set_option maxHeartbeats 4000000 in
theorem r9_fld_10 (g o n c : Nat) (a1 : List UInt8) (rest : List (List UInt8)) (w : World) (hk : (kCells g o [.string (byt a1)]).p w) (_hnc : n ≤ c) (hn : n = (a1 :: rest).length) (hL : ∀ p ∈ a1 :: rest,p.length ≤ 2000) :
  Calls Tryz.prog 42 #[.int .u8 10,.slice (some ⟨g,o,none⟩) n c] w (FldOut 10 (a1 :: rest) w):=by
 have hg : g < w.heap.size:=hk.1
 simp only [List.length_cons] at hn
 have hb2 : (bits BinOp.and IntKind.i64 1 2 != 0) = false:=by decide
 have HN0:=keep hn
 have gn1 : 1 ≤ n:=by omega
 have H1:=Lib.hid ((((Ok.start w).add (kCells g o [.string (byt a1)]) hk).var w.heap.size 28 [.int .u8 0,.int .i64 0,.int .i64 0,.int .i64 0,.int .i64 0,.int .i64 0,.string ⟨#[]⟩,.int .u64 0,.int .u64 0,.int .u64 0,.int .u8 0,.int .u64 0,.int .i64 0] rfl).var (w.heap.size + 1) 28 [.int .u8 10,.int .i64 0,.int .i64 0,.int .i64 0,.int .i64 0,.int .i64 0,.string ⟨#[]⟩,.int .u64 0,.int .u64 0,.int .u64 0,.int .u8 0,.int .u64 0,.int .i64 0] (by simp))
 have ha1 : a1.length ≤ 2000:=hL a1 (by simp)
 have HN1:=keep (fun W => r9_ReadNumber (byt a1) ha1 W)
 clear hL hk ha1
 obtain ⟨rl,hrl⟩ : ∃ rl,rest.length = rl:=⟨_,rfl⟩
 rw [hrl] at hn
 clear hrl
 go_enter Tryz.func42,Tryz.ntmps42
 go_upto_region 2 with fail
 generalize ((w.alloc (.cells #[.int .u8 0,.int .i64 0,.int .i64 0,.int .i64 0,.int .i64 0,.int .i64 0,.string ⟨#[]⟩,.int .u64 0,.int .u64 0,.int .u64 0,.int .u8 0,.int .u64 0,.int .i64 0] 28)).alloc (.cells #[.int .u8 10,.int .i64 0,.int .i64 0,.int .i64 0,.int .i64 0,.int .i64 0,.string ⟨#[]⟩,.int .u64 0,.int .u64 0,.int .u64 0,.int .u8 0,.int .u64 0,.int .i64 0] 28)) = W2 at H1 ⊢
 have F3:=H1.out.sees
 simp only [sees,kVar,kCells,cellsFrom,Nat.add_zero,cellsAt,Nat.reduceAdd] at F3
 obtain ⟨⟨⟨z0,fz0⟩,q00,q01,q02,q03,q04,q05,q06,q07,q08,q09,q0a,q0b,q0c,-⟩,⟨⟨z1,fz1⟩,q10,q11,q12,q13,q14,q15,q16,q17,q18,q19,q1a,q1b,q1c,-⟩,⟨z2,q20,-⟩,-⟩:=F3
 go_wp2_with fail
 refine (HN1.out _).mono ?_
 rintro e w4 ⟨v1,ok1,rfl,hv1,hq1,hb5⟩
 clear z0 fz0 q00 q01 q02 q03 q04 q05 q06 q07 q08 q09 q0a q0b q0c z1 fz1 q10 q11 q12 q13 q14 q15 q16 q17 q18 q19 q1a q1b q1c z2 q20
 have HV1:=keep hv1
 have HQ1:=keep hq1
 have H6:=Lib.hid (H1.out.below hb5)
 clear hb5 H1 hv1 hq1
 have F7:=H6.out.sees
 simp only [sees,kVar,kCells,cellsFrom,Nat.add_zero,cellsAt,Nat.reduceAdd] at F7
 obtain ⟨⟨⟨z0,fz0⟩,q00,q01,q02,q03,q04,q05,q06,q07,q08,q09,q0a,q0b,q0c,-⟩,⟨⟨z1,fz1⟩,q10,q11,q12,q13,q14,q15,q16,q17,q18,q19,q1a,q1b,q1c,-⟩,⟨z2,q20,-⟩,-⟩:=F7
 go_upto_region 3 with fail
 clear z0 fz0 q00 q01 q02 q03 q04 q05 q06 q07 q08 q09 q0a q0b q0c z1 fz1 q10 q11 q12 q13 q14 q15 q16 q17 q18 q19 q1a q1b q1c z2 q20
 have hfar:=farOf H6.out (by simp [kCells,kVar] <;> omega)
 have H8:=Lib.hid (H6.out.set_ (i:=1) (u:=.int .i64 v1) (by omega) hfar)
 simp only [List.set_cons_zero,List.set_cons_succ] at H8
 clear hfar
 clear H6
 generalize (w4.setCell ⟨w.heap.size + 1,1,none⟩ (.int .i64 v1)) = W9 at H8 ⊢
 have F10:=H8.out.sees
 simp only [sees,kVar,kCells,cellsFrom,Nat.add_zero,cellsAt,Nat.reduceAdd] at F10
 obtain ⟨⟨⟨z0,fz0⟩,q00,q01,q02,q03,q04,q05,q06,q07,q08,q09,q0a,q0b,q0c,-⟩,⟨⟨z1,fz1⟩,q10,q11,q12,q13,q14,q15,q16,q17,q18,q19,q1a,q1b,q1c,-⟩,⟨z2,q20,-⟩,-⟩:=F10
 go_wp2_with fail
 refine (r9_uses_10 _).mono ?_
 rintro e w11 ⟨rfl,hb12⟩
 clear z0 fz0 q00 q01 q02 q03 q04 q05 q06 q07 q08 q09 q0a q0b q0c z1 fz1 q10 q11 q12 q13 q14 q15 q16 q17 q18 q19 q1a q1b q1c z2 q20
 have H13:=Lib.hid (H8.out.below hb12)
 clear hb12 H8
 have F14:=H13.out.sees
 simp only [sees,kVar,kCells,cellsFrom,Nat.add_zero,cellsAt,Nat.reduceAdd] at F14
 obtain ⟨⟨⟨z0,fz0⟩,q00,q01,q02,q03,q04,q05,q06,q07,q08,q09,q0a,q0b,q0c,-⟩,⟨⟨z1,fz1⟩,q10,q11,q12,q13,q14,q15,q16,q17,q18,q19,q1a,q1b,q1c,-⟩,⟨z2,q20,-⟩,-⟩:=F14
 go_upto_region 15 with fail
 go_wp2_with fail
 clear z0 fz0 q00 q01 q02 q03 q04 q05 q06 q07 q08 q09 q0a q0b q0c z1 fz1 q10 q11 q12 q13 q14 q15 q16 q17 q18 q19 q1a q1b q1c z2 q20
 have hfar:=farOf H13.out.b1 (by simp [kCells,kVar] <;> omega)
 have H15:=Lib.hid (((((((((((((H13.out.b1.set_ (i:=0) (u:=.int .u8 10) (by omega) hfar).set_ (i:=1) (u:=.int .i64 v1) (by omega) hfar).set_ (i:=2) (u:=.int .i64 0) (by omega) hfar).set_ (i:=3) (u:=.int .i64 0) (by omega) hfar).set_ (i:=4) (u:=.int .i64 0) (by omega) hfar).set_ (i:=5) (u:=.int .i64 0) (by omega) hfar).set_ (i:=6) (u:=.string ⟨#[]⟩) (by omega) hfar).set_ (i:=7) (u:=.int .u64 0) (by omega) hfar).set_ (i:=8) (u:=.int .u64 0) (by omega) hfar).set_ (i:=9) (u:=.int .u64 0) (by omega) hfar).set_ (i:=10) (u:=.int .u8 0) (by omega) hfar).set_ (i:=11) (u:=.int .u64 0) (by omega) hfar).set_ (i:=12) (u:=.int .i64 0) (by omega) hfar)
 simp only [List.set_cons_zero,List.set_cons_succ] at H15
 clear hfar
 have hK:=H15.out.get (kVar (w.heap.size) 28 [.int .u8 10,.int .i64 v1,.int .i64 0,.int .i64 0,.int .i64 0,.int .i64 0,.string ⟨#[]⟩,.int .u64 0,.int .u64 0,.int .u64 0,.int .u8 0,.int .u64 0,.int .i64 0]) (by simp)
 have hE:=(show Blk (((((((((((((w11.setCell ⟨w.heap.size,0,none⟩ (.int .u8 10)).setCell ⟨w.heap.size,1,none⟩ (.int .i64 v1)).setCell ⟨w.heap.size,2,none⟩ (.int .i64 0)).setCell ⟨w.heap.size,3,none⟩ (.int .i64 0)).setCell ⟨w.heap.size,4,none⟩ (.int .i64 0)).setCell ⟨w.heap.size,5,none⟩ (.int .i64 0)).setCell ⟨w.heap.size,6,none⟩ (.string ⟨#[]⟩)).setCell ⟨w.heap.size,7,none⟩ (.int .u64 0)).setCell ⟨w.heap.size,8,none⟩ (.int .u64 0)).setCell ⟨w.heap.size,9,none⟩ (.int .u64 0)).setCell ⟨w.heap.size,10,none⟩ (.int .u8 0)).setCell ⟨w.heap.size,11,none⟩ (.int .u64 0)).setCell ⟨w.heap.size,12,none⟩ (.int .i64 0)) (w.heap.size) 28 _ from hK)
 have r0:=hE.cell 0
 have r1:=hE.cell 1
 have r2:=hE.cell 2
 have r3:=hE.cell 3
 have r4:=hE.cell 4
 have r5:=hE.cell 5
 have r6:=hE.cell 6
 have r7:=hE.cell 7
 have r8:=hE.cell 8
 have r9:=hE.cell 9
 have r10:=hE.cell 10
 have r11:=hE.cell 11
 have r12:=hE.cell 12
 simp at r0 r1 r2 r3 r4 r5 r6 r7 r8 r9 r10 r11 r12
 exact bodyPost_ret (v:=.agg #[.int .u8 10,.int .i64 v1,.int .i64 0,.int .i64 0,.int .i64 0,.int .i64 0,.string ⟨#[]⟩,.int .u64 0,.int .u64 0,.int .u64 0,.int .u8 0,.int .u64 0,.int .i64 0]) (by simp [results,Tryz.results42,go_sem,r0,r1,r2,r3,r4,r5,r6,r7,r8,r9,r10,r11,r12]) rfl ⟨(⟨10,v1,R4.zero,[],0,0,0,0,0,0⟩ : OpV),rfl,⟨(show 10 < 256 by decide),HV1.out,i64_z,i64_z,i64_z,i64_z,z64,z64,z64,z256,z64,i64_z⟩,rfl,rfl,(fun y oy gy hky hw => by
   obtain ⟨r,e,hr⟩:=hw
   obtain ⟨e1,e2⟩:=List.cons.inj e
   exact fld_eq _ y gy hky.symm (HQ1.out y.user oy.user e1) (by rw [hky]; rfl) rfl (by rw [hky]; rfl) (by rw [hky]; rfl) (by rw [hky]; rfl) (by rw [hky]; rfl) (by rw [hky]; rfl) (by rw [hky]; rfl)),H15.out.bel⟩
set_option maxRecDepth 100000 in
set_option maxHeartbeats 4000000 in
theorem r9_fld_3_one (g o n c : Nat) (a1 : List UInt8) (w : World) (hk : (kCells g o [.string (byt a1)]).p w) (_hnc : n ≤ c) (hn : n = ([a1]).length) (hL : ∀ p ∈ [a1],p.length ≤ 2000) :
  Calls Tryz.prog 42 #[.int .u8 3,.slice (some ⟨g,o,none⟩) n c] w (FldOut 3 ([a1]) w):=by
 have hg : g < w.heap.size:=hk.1
 simp only [List.length_cons,List.length_nil,Nat.zero_add] at hn
 have hb2 : (bits BinOp.and IntKind.i64 7 2 != 0) = true:=by decide
 have HN0:=keep hn
 have gn1 : 1 ≤ n:=by omega
 have H1:=Lib.hid ((((Ok.start w).add (kCells g o [.string (byt a1)]) hk).var w.heap.size 28 [.int .u8 0,.int .i64 0,.int .i64 0,.int .i64 0,.int .i64 0,.int .i64 0,.string ⟨#[]⟩,.int .u64 0,.int .u64 0,.int .u64 0,.int .u8 0,.int .u64 0,.int .i64 0] rfl).var (w.heap.size + 1) 28 [.int .u8 3,.int .i64 0,.int .i64 0,.int .i64 0,.int .i64 0,.int .i64 0,.string ⟨#[]⟩,.int .u64 0,.int .u64 0,.int .u64 0,.int .u8 0,.int .u64 0,.int .i64 0] (by simp))
 have ha1 : a1.length ≤ 2000:=hL a1 (by simp)
 have HN1:=keep (fun W => r9_ReadNumber (byt a1) ha1 W)
 clear hL hk ha1
 subst hn
 go_enter Tryz.func42,Tryz.ntmps42
 go_upto_region 2 with fail
 generalize ((w.alloc (.cells #[.int .u8 0,.int .i64 0,.int .i64 0,.int .i64 0,.int .i64 0,.int .i64 0,.string ⟨#[]⟩,.int .u64 0,.int .u64 0,.int .u64 0,.int .u8 0,.int .u64 0,.int .i64 0] 28)).alloc (.cells #[.int .u8 3,.int .i64 0,.int .i64 0,.int .i64 0,.int .i64 0,.int .i64 0,.string ⟨#[]⟩,.int .u64 0,.int .u64 0,.int .u64 0,.int .u8 0,.int .u64 0,.int .i64 0] 28)) = W2 at H1 ⊢
 have F3:=H1.out.sees
 simp only [sees,kVar,kCells,cellsFrom,Nat.add_zero,cellsAt,Nat.reduceAdd] at F3
 obtain ⟨⟨⟨z0,fz0⟩,q00,q01,q02,q03,q04,q05,q06,q07,q08,q09,q0a,q0b,q0c,-⟩,⟨⟨z1,fz1⟩,q10,q11,q12,q13,q14,q15,q16,q17,q18,q19,q1a,q1b,q1c,-⟩,⟨z2,q20,-⟩,-⟩:=F3
 go_wp2_with fail
 refine (HN1.out _).mono ?_
 rintro e w4 ⟨v1,ok1,rfl,hv1,hq1,hb5⟩
 clear z0 fz0 q00 q01 q02 q03 q04 q05 q06 q07 q08 q09 q0a q0b q0c z1 fz1 q10 q11 q12 q13 q14 q15 q16 q17 q18 q19 q1a q1b q1c z2 q20
 have HV1:=keep hv1
 have HQ1:=keep hq1
 have H6:=Lib.hid (H1.out.below hb5)
 clear hb5 H1 hv1 hq1
 have F7:=H6.out.sees
 simp only [sees,kVar,kCells,cellsFrom,Nat.add_zero,cellsAt,Nat.reduceAdd] at F7
 obtain ⟨⟨⟨z0,fz0⟩,q00,q01,q02,q03,q04,q05,q06,q07,q08,q09,q0a,q0b,q0c,-⟩,⟨⟨z1,fz1⟩,q10,q11,q12,q13,q14,q15,q16,q17,q18,q19,q1a,q1b,q1c,-⟩,⟨z2,q20,-⟩,-⟩:=F7
 go_upto_region 3 with fail
 clear z0 fz0 q00 q01 q02 q03 q04 q05 q06 q07 q08 q09 q0a q0b q0c z1 fz1 q10 q11 q12 q13 q14 q15 q16 q17 q18 q19 q1a q1b q1c z2 q20
 have hfar:=farOf H6.out (by simp [kCells,kVar] <;> omega)
 have H8:=Lib.hid (H6.out.set_ (i:=1) (u:=.int .i64 v1) (by omega) hfar)
 simp only [List.set_cons_zero,List.set_cons_succ] at H8
 clear hfar
 clear H6
 generalize (w4.setCell ⟨w.heap.size + 1,1,none⟩ (.int .i64 v1)) = W9 at H8 ⊢
 have F10:=H8.out.sees
 simp only [sees,kVar,kCells,cellsFrom,Nat.add_zero,cellsAt,Nat.reduceAdd] at F10
 obtain ⟨⟨⟨z0,fz0⟩,q00,q01,q02,q03,q04,q05,q06,q07,q08,q09,q0a,q0b,q0c,-⟩,⟨⟨z1,fz1⟩,q10,q11,q12,q13,q14,q15,q16,q17,q18,q19,q1a,q1b,q1c,-⟩,⟨z2,q20,-⟩,-⟩:=F10
 go_wp2_with fail
 refine (r9_uses_3 _).mono ?_
 rintro e w11 ⟨rfl,hb12⟩
 clear z0 fz0 q00 q01 q02 q03 q04 q05 q06 q07 q08 q09 q0a q0b q0c z1 fz1 q10 q11 q12 q13 q14 q15 q16 q17 q18 q19 q1a q1b q1c z2 q20
 have H13:=Lib.hid (H8.out.below hb12)
 clear hb12 H8
 have F14:=H13.out.sees
 simp only [sees,kVar,kCells,cellsFrom,Nat.add_zero,cellsAt,Nat.reduceAdd] at F14
 obtain ⟨⟨⟨z0,fz0⟩,q00,q01,q02,q03,q04,q05,q06,q07,q08,q09,q0a,q0b,q0c,-⟩,⟨⟨z1,fz1⟩,q10,q11,q12,q13,q14,q15,q16,q17,q18,q19,q1a,q1b,q1c,-⟩,⟨z2,q20,-⟩,-⟩:=F14
 go_upto_region 15 with fail
 go_wp2_with fail
 clear z0 fz0 q00 q01 q02 q03 q04 q05 q06 q07 q08 q09 q0a q0b q0c z1 fz1 q10 q11 q12 q13 q14 q15 q16 q17 q18 q19 q1a q1b q1c z2 q20
 have hfar:=farOf H13.out.b1 (by simp [kCells,kVar] <;> omega)
 have H15:=Lib.hid (((((((((((((H13.out.b1.set_ (i:=0) (u:=.int .u8 3) (by omega) hfar).set_ (i:=1) (u:=.int .i64 v1) (by omega) hfar).set_ (i:=2) (u:=.int .i64 0) (by omega) hfar).set_ (i:=3) (u:=.int .i64 0) (by omega) hfar).set_ (i:=4) (u:=.int .i64 0) (by omega) hfar).set_ (i:=5) (u:=.int .i64 0) (by omega) hfar).set_ (i:=6) (u:=.string ⟨#[]⟩) (by omega) hfar).set_ (i:=7) (u:=.int .u64 0) (by omega) hfar).set_ (i:=8) (u:=.int .u64 0) (by omega) hfar).set_ (i:=9) (u:=.int .u64 0) (by omega) hfar).set_ (i:=10) (u:=.int .u8 0) (by omega) hfar).set_ (i:=11) (u:=.int .u64 0) (by omega) hfar).set_ (i:=12) (u:=.int .i64 0) (by omega) hfar)
 simp only [List.set_cons_zero,List.set_cons_succ] at H15
 clear hfar
 have hK:=H15.out.get (kVar (w.heap.size) 28 [.int .u8 3,.int .i64 v1,.int .i64 0,.int .i64 0,.int .i64 0,.int .i64 0,.string ⟨#[]⟩,.int .u64 0,.int .u64 0,.int .u64 0,.int .u8 0,.int .u64 0,.int .i64 0]) (by simp)
 have hE:=(show Blk (((((((((((((w11.setCell ⟨w.heap.size,0,none⟩ (.int .u8 3)).setCell ⟨w.heap.size,1,none⟩ (.int .i64 v1)).setCell ⟨w.heap.size,2,none⟩ (.int .i64 0)).setCell ⟨w.heap.size,3,none⟩ (.int .i64 0)).setCell ⟨w.heap.size,4,none⟩ (.int .i64 0)).setCell ⟨w.heap.size,5,none⟩ (.int .i64 0)).setCell ⟨w.heap.size,6,none⟩ (.string ⟨#[]⟩)).setCell ⟨w.heap.size,7,none⟩ (.int .u64 0)).setCell ⟨w.heap.size,8,none⟩ (.int .u64 0)).setCell ⟨w.heap.size,9,none⟩ (.int .u64 0)).setCell ⟨w.heap.size,10,none⟩ (.int .u8 0)).setCell ⟨w.heap.size,11,none⟩ (.int .u64 0)).setCell ⟨w.heap.size,12,none⟩ (.int .i64 0)) (w.heap.size) 28 _ from hK)
 have r0:=hE.cell 0
 have r1:=hE.cell 1
 have r2:=hE.cell 2
 have r3:=hE.cell 3
 have r4:=hE.cell 4
 have r5:=hE.cell 5
 have r6:=hE.cell 6
 have r7:=hE.cell 7
 have r8:=hE.cell 8
 have r9:=hE.cell 9
 have r10:=hE.cell 10
 have r11:=hE.cell 11
 have r12:=hE.cell 12
 simp at r0 r1 r2 r3 r4 r5 r6 r7 r8 r9 r10 r11 r12
 exact bodyPost_ret (v:=.agg #[.int .u8 3,.int .i64 v1,.int .i64 0,.int .i64 0,.int .i64 0,.int .i64 0,.string ⟨#[]⟩,.int .u64 0,.int .u64 0,.int .u64 0,.int .u8 0,.int .u64 0,.int .i64 0]) (by simp [results,Tryz.results42,go_sem,r0,r1,r2,r3,r4,r5,r6,r7,r8,r9,r10,r11,r12]) rfl ⟨(⟨3,v1,R4.zero,[],0,0,0,0,0,0⟩ : OpV),rfl,⟨(show 3 < 256 by decide),HV1.out,i64_z,i64_z,i64_z,i64_z,z64,z64,z64,z256,z64,i64_z⟩,rfl,rfl,(fun y oy gy hky hw => by
   obtain ⟨r,e,hr⟩:=hw
   obtain ⟨e1,e2⟩:=List.cons.inj e
   exact absurd e2 (by simp [usesR])),H15.out.bel⟩
set_option maxRecDepth 100000 in
set_option maxHeartbeats 4000000 in
theorem r9_fld_3_more (g o n c : Nat) (a1 a2 : List UInt8) (rest : List (List UInt8)) (w : World) (hk : (kCells g o [.string (byt a1),.string (byt a2)]).p w) (_hnc : n ≤ c) (hn : n = (a1 :: a2 :: rest).length) (hL : ∀ p ∈ a1 :: a2 :: rest,p.length ≤ 2000) :
  Calls Tryz.prog 42 #[.int .u8 3,.slice (some ⟨g,o,none⟩) n c] w (FldOut 3 (a1 :: a2 :: rest) w):=by
 have hg : g < w.heap.size:=hk.1
 simp only [List.length_cons] at hn
 have hb2 : (bits BinOp.and IntKind.i64 7 2 != 0) = true:=by decide
 have HN0:=keep hn
 have gn1 : 1 ≤ n:=by omega
 have H1:=Lib.hid ((((Ok.start w).add (kCells g o [.string (byt a1),.string (byt a2)]) hk).var w.heap.size 28 [.int .u8 0,.int .i64 0,.int .i64 0,.int .i64 0,.int .i64 0,.int .i64 0,.string ⟨#[]⟩,.int .u64 0,.int .u64 0,.int .u64 0,.int .u8 0,.int .u64 0,.int .i64 0] rfl).var (w.heap.size + 1) 28 [.int .u8 3,.int .i64 0,.int .i64 0,.int .i64 0,.int .i64 0,.int .i64 0,.string ⟨#[]⟩,.int .u64 0,.int .u64 0,.int .u64 0,.int .u8 0,.int .u64 0,.int .i64 0] (by simp))
 have ha1 : a1.length ≤ 2000:=hL a1 (by simp)
 have HN1:=keep (fun W => r9_ReadNumber (byt a1) ha1 W)
 have ha2 : a2.length ≤ 2000:=hL a2 (by simp)
 have HN2:=keep (fun W => r9_ReadRange (byt a2) ha2 W)
 clear hL hk ha1 ha2
 obtain ⟨rl,hrl⟩ : ∃ rl,rest.length = rl:=⟨_,rfl⟩
 rw [hrl] at hn
 clear hrl
 go_enter Tryz.func42,Tryz.ntmps42
 go_upto_region 2 with fail
 generalize ((w.alloc (.cells #[.int .u8 0,.int .i64 0,.int .i64 0,.int .i64 0,.int .i64 0,.int .i64 0,.string ⟨#[]⟩,.int .u64 0,.int .u64 0,.int .u64 0,.int .u8 0,.int .u64 0,.int .i64 0] 28)).alloc (.cells #[.int .u8 3,.int .i64 0,.int .i64 0,.int .i64 0,.int .i64 0,.int .i64 0,.string ⟨#[]⟩,.int .u64 0,.int .u64 0,.int .u64 0,.int .u8 0,.int .u64 0,.int .i64 0] 28)) = W2 at H1 ⊢
 have F3:=H1.out.sees
 simp only [sees,kVar,kCells,cellsFrom,Nat.add_zero,cellsAt,Nat.reduceAdd] at F3
 obtain ⟨⟨⟨z0,fz0⟩,q00,q01,q02,q03,q04,q05,q06,q07,q08,q09,q0a,q0b,q0c,-⟩,⟨⟨z1,fz1⟩,q10,q11,q12,q13,q14,q15,q16,q17,q18,q19,q1a,q1b,q1c,-⟩,⟨z2,q20,q21,-⟩,-⟩:=F3
 go_wp2_with fail
 refine (HN1.out _).mono ?_
 rintro e w4 ⟨v1,ok1,rfl,hv1,hq1,hb5⟩
 clear z0 fz0 q00 q01 q02 q03 q04 q05 q06 q07 q08 q09 q0a q0b q0c z1 fz1 q10 q11 q12 q13 q14 q15 q16 q17 q18 q19 q1a q1b q1c z2 q20 q21
 have HV1:=keep hv1
 have HQ1:=keep hq1
 have H6:=Lib.hid (H1.out.below hb5)
 clear hb5 H1 hv1 hq1
 have F7:=H6.out.sees
 simp only [sees,kVar,kCells,cellsFrom,Nat.add_zero,cellsAt,Nat.reduceAdd] at F7
 obtain ⟨⟨⟨z0,fz0⟩,q00,q01,q02,q03,q04,q05,q06,q07,q08,q09,q0a,q0b,q0c,-⟩,⟨⟨z1,fz1⟩,q10,q11,q12,q13,q14,q15,q16,q17,q18,q19,q1a,q1b,q1c,-⟩,⟨z2,q20,q21,-⟩,-⟩:=F7
 go_upto_region 3 with fail
 clear z0 fz0 q00 q01 q02 q03 q04 q05 q06 q07 q08 q09 q0a q0b q0c z1 fz1 q10 q11 q12 q13 q14 q15 q16 q17 q18 q19 q1a q1b q1c z2 q20 q21
 have hfar:=farOf H6.out (by simp [kCells,kVar] <;> omega)
 have H8:=Lib.hid (H6.out.set_ (i:=1) (u:=.int .i64 v1) (by omega) hfar)
 simp only [List.set_cons_zero,List.set_cons_succ] at H8
 clear hfar
 clear H6
 generalize (w4.setCell ⟨w.heap.size + 1,1,none⟩ (.int .i64 v1)) = W9 at H8 ⊢
 have F10:=H8.out.sees
 simp only [sees,kVar,kCells,cellsFrom,Nat.add_zero,cellsAt,Nat.reduceAdd] at F10
 obtain ⟨⟨⟨z0,fz0⟩,q00,q01,q02,q03,q04,q05,q06,q07,q08,q09,q0a,q0b,q0c,-⟩,⟨⟨z1,fz1⟩,q10,q11,q12,q13,q14,q15,q16,q17,q18,q19,q1a,q1b,q1c,-⟩,⟨z2,q20,q21,-⟩,-⟩:=F10
 go_wp2_with fail
 refine (r9_uses_3 _).mono ?_
 rintro e w11 ⟨rfl,hb12⟩
 clear z0 fz0 q00 q01 q02 q03 q04 q05 q06 q07 q08 q09 q0a q0b q0c z1 fz1 q10 q11 q12 q13 q14 q15 q16 q17 q18 q19 q1a q1b q1c z2 q20 q21
 have H13:=Lib.hid (H8.out.below hb12)
 clear hb12 H8
 have F14:=H13.out.sees
 simp only [sees,kVar,kCells,cellsFrom,Nat.add_zero,cellsAt,Nat.reduceAdd] at F14
 obtain ⟨⟨⟨z0,fz0⟩,q00,q01,q02,q03,q04,q05,q06,q07,q08,q09,q0a,q0b,q0c,-⟩,⟨⟨z1,fz1⟩,q10,q11,q12,q13,q14,q15,q16,q17,q18,q19,q1a,q1b,q1c,-⟩,⟨z2,q20,q21,-⟩,-⟩:=F14
 go_wp2_with fail
 refine (HN2.out _).mono ?_
 rintro e w15 ⟨⟨s1,s2,s3,s4⟩,ok2,rfl,hv2,hq2,hb16⟩
 clear z0 fz0 q00 q01 q02 q03 q04 q05 q06 q07 q08 q09 q0a q0b q0c z1 fz1 q10 q11 q12 q13 q14 q15 q16 q17 q18 q19 q1a q1b q1c z2 q20 q21
 have HV2:=keep hv2
 have HQ2:=keep hq2
 have H17:=Lib.hid (H13.out.below hb16)
 clear hb16 H13 hv2 hq2
 have F18:=H17.out.sees
 simp only [sees,kVar,kCells,cellsFrom,Nat.add_zero,cellsAt,Nat.reduceAdd] at F18
 obtain ⟨⟨⟨z0,fz0⟩,q00,q01,q02,q03,q04,q05,q06,q07,q08,q09,q0a,q0b,q0c,-⟩,⟨⟨z1,fz1⟩,q10,q11,q12,q13,q14,q15,q16,q17,q18,q19,q1a,q1b,q1c,-⟩,⟨z2,q20,q21,-⟩,-⟩:=F18
 go_upto_region 5 with fail
 clear z0 fz0 q00 q01 q02 q03 q04 q05 q06 q07 q08 q09 q0a q0b q0c z1 fz1 q10 q11 q12 q13 q14 q15 q16 q17 q18 q19 q1a q1b q1c z2 q20 q21
 have hfar:=farOf H17.out (by simp [kCells,kVar] <;> omega)
 have H19:=Lib.hid ((((H17.out.set_ (i:=2) (u:=.int .i64 s1) (by omega) hfar).set_ (i:=3) (u:=.int .i64 s2) (by omega) hfar).set_ (i:=4) (u:=.int .i64 s3) (by omega) hfar).set_ (i:=5) (u:=.int .i64 s4) (by omega) hfar)
 simp only [List.set_cons_zero,List.set_cons_succ] at H19
 clear hfar
 clear H17
 generalize ((((w15.setCell ⟨w.heap.size + 1,2,none⟩ (.int .i64 s1)).setCell ⟨w.heap.size + 1,3,none⟩ (.int .i64 s2)).setCell ⟨w.heap.size + 1,4,none⟩ (.int .i64 s3)).setCell ⟨w.heap.size + 1,5,none⟩ (.int .i64 s4)) = W20 at H19 ⊢
 have F21:=H19.out.sees
 simp only [sees,kVar,kCells,cellsFrom,Nat.add_zero,cellsAt,Nat.reduceAdd] at F21
 obtain ⟨⟨⟨z0,fz0⟩,q00,q01,q02,q03,q04,q05,q06,q07,q08,q09,q0a,q0b,q0c,-⟩,⟨⟨z1,fz1⟩,q10,q11,q12,q13,q14,q15,q16,q17,q18,q19,q1a,q1b,q1c,-⟩,⟨z2,q20,q21,-⟩,-⟩:=F21
 go_upto_region 15 with fail
 go_wp2_with fail
 clear z0 fz0 q00 q01 q02 q03 q04 q05 q06 q07 q08 q09 q0a q0b q0c z1 fz1 q10 q11 q12 q13 q14 q15 q16 q17 q18 q19 q1a q1b q1c z2 q20 q21
 have hfar:=farOf H19.out.b1 (by simp [kCells,kVar] <;> omega)
 have H22:=Lib.hid (((((((((((((H19.out.b1.set_ (i:=0) (u:=.int .u8 3) (by omega) hfar).set_ (i:=1) (u:=.int .i64 v1) (by omega) hfar).set_ (i:=2) (u:=.int .i64 s1) (by omega) hfar).set_ (i:=3) (u:=.int .i64 s2) (by omega) hfar).set_ (i:=4) (u:=.int .i64 s3) (by omega) hfar).set_ (i:=5) (u:=.int .i64 s4) (by omega) hfar).set_ (i:=6) (u:=.string ⟨#[]⟩) (by omega) hfar).set_ (i:=7) (u:=.int .u64 0) (by omega) hfar).set_ (i:=8) (u:=.int .u64 0) (by omega) hfar).set_ (i:=9) (u:=.int .u64 0) (by omega) hfar).set_ (i:=10) (u:=.int .u8 0) (by omega) hfar).set_ (i:=11) (u:=.int .u64 0) (by omega) hfar).set_ (i:=12) (u:=.int .i64 0) (by omega) hfar)
 simp only [List.set_cons_zero,List.set_cons_succ] at H22
 clear hfar
 have hK:=H22.out.get (kVar (w.heap.size) 28 [.int .u8 3,.int .i64 v1,.int .i64 s1,.int .i64 s2,.int .i64 s3,.int .i64 s4,.string ⟨#[]⟩,.int .u64 0,.int .u64 0,.int .u64 0,.int .u8 0,.int .u64 0,.int .i64 0]) (by simp)
 have hE:=(show Blk (((((((((((((W20.setCell ⟨w.heap.size,0,none⟩ (.int .u8 3)).setCell ⟨w.heap.size,1,none⟩ (.int .i64 v1)).setCell ⟨w.heap.size,2,none⟩ (.int .i64 s1)).setCell ⟨w.heap.size,3,none⟩ (.int .i64 s2)).setCell ⟨w.heap.size,4,none⟩ (.int .i64 s3)).setCell ⟨w.heap.size,5,none⟩ (.int .i64 s4)).setCell ⟨w.heap.size,6,none⟩ (.string ⟨#[]⟩)).setCell ⟨w.heap.size,7,none⟩ (.int .u64 0)).setCell ⟨w.heap.size,8,none⟩ (.int .u64 0)).setCell ⟨w.heap.size,9,none⟩ (.int .u64 0)).setCell ⟨w.heap.size,10,none⟩ (.int .u8 0)).setCell ⟨w.heap.size,11,none⟩ (.int .u64 0)).setCell ⟨w.heap.size,12,none⟩ (.int .i64 0)) (w.heap.size) 28 _ from hK)
 have r0:=hE.cell 0
 have r1:=hE.cell 1
 have r2:=hE.cell 2
 have r3:=hE.cell 3
 have r4:=hE.cell 4
 have r5:=hE.cell 5
 have r6:=hE.cell 6
 have r7:=hE.cell 7
 have r8:=hE.cell 8
 have r9:=hE.cell 9
 have r10:=hE.cell 10
 have r11:=hE.cell 11
 have r12:=hE.cell 12
 simp at r0 r1 r2 r3 r4 r5 r6 r7 r8 r9 r10 r11 r12
 exact bodyPost_ret (v:=.agg #[.int .u8 3,.int .i64 v1,.int .i64 s1,.int .i64 s2,.int .i64 s3,.int .i64 s4,.string ⟨#[]⟩,.int .u64 0,.int .u64 0,.int .u64 0,.int .u8 0,.int .u64 0,.int .i64 0]) (by simp [results,Tryz.results42,go_sem,r0,r1,r2,r3,r4,r5,r6,r7,r8,r9,r10,r11,r12]) rfl ⟨(⟨3,v1,⟨s1,s2,s3,s4⟩,[],0,0,0,0,0,0⟩ : OpV),rfl,⟨(show 3 < 256 by decide),HV1.out,HV2.out.1,HV2.out.2.1,HV2.out.2.2.1,HV2.out.2.2.2,z64,z64,z64,z256,z64,i64_z⟩,rfl,rfl,(fun y oy gy hky hw => by
   obtain ⟨r,e,hr⟩:=hw
   obtain ⟨e1,e2⟩:=List.cons.inj e
   obtain ⟨e3,e4⟩:=List.cons.inj (show a2 :: rest = rangeL y.rect :: r from e2)
   exact fld_eq _ y gy hky.symm (HQ1.out y.user oy.user e1) (by rw [hky]; exact HQ2.out y.rect ⟨oy.c1,oy.r1,oy.c2,oy.r2⟩ e3) rfl (by rw [hky]; rfl) (by rw [hky]; rfl) (by rw [hky]; rfl) (by rw [hky]; rfl) (by rw [hky]; rfl) (by rw [hky]; rfl)),H22.out.bel⟩
set_option maxRecDepth 100000 in
set_option maxHeartbeats 4000000 in
theorem r9_fld_4_one (g o n c : Nat) (a1 : List UInt8) (w : World) (hk : (kCells g o [.string (byt a1)]).p w) (_hnc : n ≤ c) (hn : n = ([a1]).length) (hL : ∀ p ∈ [a1],p.length ≤ 2000) :
  Calls Tryz.prog 42 #[.int .u8 4,.slice (some ⟨g,o,none⟩) n c] w (FldOut 4 ([a1]) w):=by
 have hg : g < w.heap.size:=hk.1
 simp only [List.length_cons,List.length_nil,Nat.zero_add] at hn
 have hb2 : (bits BinOp.and IntKind.i64 3 2 != 0) = true:=by decide
 have HN0:=keep hn
 have gn1 : 1 ≤ n:=by omega
 have H1:=Lib.hid ((((Ok.start w).add (kCells g o [.string (byt a1)]) hk).var w.heap.size 28 [.int .u8 0,.int .i64 0,.int .i64 0,.int .i64 0,.int .i64 0,.int .i64 0,.string ⟨#[]⟩,.int .u64 0,.int .u64 0,.int .u64 0,.int .u8 0,.int .u64 0,.int .i64 0] rfl).var (w.heap.size + 1) 28 [.int .u8 4,.int .i64 0,.int .i64 0,.int .i64 0,.int .i64 0,.int .i64 0,.string ⟨#[]⟩,.int .u64 0,.int .u64 0,.int .u64 0,.int .u8 0,.int .u64 0,.int .i64 0] (by simp))
 have ha1 : a1.length ≤ 2000:=hL a1 (by simp)
 have HN1:=keep (fun W => r9_ReadNumber (byt a1) ha1 W)
 clear hL hk ha1
 subst hn
 go_enter Tryz.func42,Tryz.ntmps42
 go_upto_region 2 with fail
 generalize ((w.alloc (.cells #[.int .u8 0,.int .i64 0,.int .i64 0,.int .i64 0,.int .i64 0,.int .i64 0,.string ⟨#[]⟩,.int .u64 0,.int .u64 0,.int .u64 0,.int .u8 0,.int .u64 0,.int .i64 0] 28)).alloc (.cells #[.int .u8 4,.int .i64 0,.int .i64 0,.int .i64 0,.int .i64 0,.int .i64 0,.string ⟨#[]⟩,.int .u64 0,.int .u64 0,.int .u64 0,.int .u8 0,.int .u64 0,.int .i64 0] 28)) = W2 at H1 ⊢
 have F3:=H1.out.sees
 simp only [sees,kVar,kCells,cellsFrom,Nat.add_zero,cellsAt,Nat.reduceAdd] at F3
 obtain ⟨⟨⟨z0,fz0⟩,q00,q01,q02,q03,q04,q05,q06,q07,q08,q09,q0a,q0b,q0c,-⟩,⟨⟨z1,fz1⟩,q10,q11,q12,q13,q14,q15,q16,q17,q18,q19,q1a,q1b,q1c,-⟩,⟨z2,q20,-⟩,-⟩:=F3
 go_wp2_with fail
 refine (HN1.out _).mono ?_
 rintro e w4 ⟨v1,ok1,rfl,hv1,hq1,hb5⟩
 clear z0 fz0 q00 q01 q02 q03 q04 q05 q06 q07 q08 q09 q0a q0b q0c z1 fz1 q10 q11 q12 q13 q14 q15 q16 q17 q18 q19 q1a q1b q1c z2 q20
 have HV1:=keep hv1
 have HQ1:=keep hq1
 have H6:=Lib.hid (H1.out.below hb5)
 clear hb5 H1 hv1 hq1
 have F7:=H6.out.sees
 simp only [sees,kVar,kCells,cellsFrom,Nat.add_zero,cellsAt,Nat.reduceAdd] at F7
 obtain ⟨⟨⟨z0,fz0⟩,q00,q01,q02,q03,q04,q05,q06,q07,q08,q09,q0a,q0b,q0c,-⟩,⟨⟨z1,fz1⟩,q10,q11,q12,q13,q14,q15,q16,q17,q18,q19,q1a,q1b,q1c,-⟩,⟨z2,q20,-⟩,-⟩:=F7
 go_upto_region 3 with fail
 clear z0 fz0 q00 q01 q02 q03 q04 q05 q06 q07 q08 q09 q0a q0b q0c z1 fz1 q10 q11 q12 q13 q14 q15 q16 q17 q18 q19 q1a q1b q1c z2 q20
 have hfar:=farOf H6.out (by simp [kCells,kVar] <;> omega)
 have H8:=Lib.hid (H6.out.set_ (i:=1) (u:=.int .i64 v1) (by omega) hfar)
 simp only [List.set_cons_zero,List.set_cons_succ] at H8
 clear hfar
 clear H6
 generalize (w4.setCell ⟨w.heap.size + 1,1,none⟩ (.int .i64 v1)) = W9 at H8 ⊢
 have F10:=H8.out.sees
 simp only [sees,kVar,kCells,cellsFrom,Nat.add_zero,cellsAt,Nat.reduceAdd] at F10
 obtain ⟨⟨⟨z0,fz0⟩,q00,q01,q02,q03,q04,q05,q06,q07,q08,q09,q0a,q0b,q0c,-⟩,⟨⟨z1,fz1⟩,q10,q11,q12,q13,q14,q15,q16,q17,q18,q19,q1a,q1b,q1c,-⟩,⟨z2,q20,-⟩,-⟩:=F10
 go_wp2_with fail
 refine (r9_uses_4 _).mono ?_
 rintro e w11 ⟨rfl,hb12⟩
 clear z0 fz0 q00 q01 q02 q03 q04 q05 q06 q07 q08 q09 q0a q0b q0c z1 fz1 q10 q11 q12 q13 q14 q15 q16 q17 q18 q19 q1a q1b q1c z2 q20
 have H13:=Lib.hid (H8.out.below hb12)
 clear hb12 H8
 have F14:=H13.out.sees
 simp only [sees,kVar,kCells,cellsFrom,Nat.add_zero,cellsAt,Nat.reduceAdd] at F14
 obtain ⟨⟨⟨z0,fz0⟩,q00,q01,q02,q03,q04,q05,q06,q07,q08,q09,q0a,q0b,q0c,-⟩,⟨⟨z1,fz1⟩,q10,q11,q12,q13,q14,q15,q16,q17,q18,q19,q1a,q1b,q1c,-⟩,⟨z2,q20,-⟩,-⟩:=F14
 go_upto_region 15 with fail
 go_wp2_with fail
 clear z0 fz0 q00 q01 q02 q03 q04 q05 q06 q07 q08 q09 q0a q0b q0c z1 fz1 q10 q11 q12 q13 q14 q15 q16 q17 q18 q19 q1a q1b q1c z2 q20
 have hfar:=farOf H13.out.b1 (by simp [kCells,kVar] <;> omega)
 have H15:=Lib.hid (((((((((((((H13.out.b1.set_ (i:=0) (u:=.int .u8 4) (by omega) hfar).set_ (i:=1) (u:=.int .i64 v1) (by omega) hfar).set_ (i:=2) (u:=.int .i64 0) (by omega) hfar).set_ (i:=3) (u:=.int .i64 0) (by omega) hfar).set_ (i:=4) (u:=.int .i64 0) (by omega) hfar).set_ (i:=5) (u:=.int .i64 0) (by omega) hfar).set_ (i:=6) (u:=.string ⟨#[]⟩) (by omega) hfar).set_ (i:=7) (u:=.int .u64 0) (by omega) hfar).set_ (i:=8) (u:=.int .u64 0) (by omega) hfar).set_ (i:=9) (u:=.int .u64 0) (by omega) hfar).set_ (i:=10) (u:=.int .u8 0) (by omega) hfar).set_ (i:=11) (u:=.int .u64 0) (by omega) hfar).set_ (i:=12) (u:=.int .i64 0) (by omega) hfar)
 simp only [List.set_cons_zero,List.set_cons_succ] at H15
 clear hfar
 have hK:=H15.out.get (kVar (w.heap.size) 28 [.int .u8 4,.int .i64 v1,.int .i64 0,.int .i64 0,.int .i64 0,.int .i64 0,.string ⟨#[]⟩,.int .u64 0,.int .u64 0,.int .u64 0,.int .u8 0,.int .u64 0,.int .i64 0]) (by simp)
 have hE:=(show Blk (((((((((((((w11.setCell ⟨w.heap.size,0,none⟩ (.int .u8 4)).setCell ⟨w.heap.size,1,none⟩ (.int .i64 v1)).setCell ⟨w.heap.size,2,none⟩ (.int .i64 0)).setCell ⟨w.heap.size,3,none⟩ (.int .i64 0)).setCell ⟨w.heap.size,4,none⟩ (.int .i64 0)).setCell ⟨w.heap.size,5,none⟩ (.int .i64 0)).setCell ⟨w.heap.size,6,none⟩ (.string ⟨#[]⟩)).setCell ⟨w.heap.size,7,none⟩ (.int .u64 0)).setCell ⟨w.heap.size,8,none⟩ (.int .u64 0)).setCell ⟨w.heap.size,9,none⟩ (.int .u64 0)).setCell ⟨w.heap.size,10,none⟩ (.int .u8 0)).setCell ⟨w.heap.size,11,none⟩ (.int .u64 0)).setCell ⟨w.heap.size,12,none⟩ (.int .i64 0)) (w.heap.size) 28 _ from hK)
 have r0:=hE.cell 0
 have r1:=hE.cell 1
 have r2:=hE.cell 2
 have r3:=hE.cell 3
 have r4:=hE.cell 4
 have r5:=hE.cell 5
 have r6:=hE.cell 6
 have r7:=hE.cell 7
 have r8:=hE.cell 8
 have r9:=hE.cell 9
 have r10:=hE.cell 10
 have r11:=hE.cell 11
 have r12:=hE.cell 12
 simp at r0 r1 r2 r3 r4 r5 r6 r7 r8 r9 r10 r11 r12
 exact bodyPost_ret (v:=.agg #[.int .u8 4,.int .i64 v1,.int .i64 0,.int .i64 0,.int .i64 0,.int .i64 0,.string ⟨#[]⟩,.int .u64 0,.int .u64 0,.int .u64 0,.int .u8 0,.int .u64 0,.int .i64 0]) (by simp [results,Tryz.results42,go_sem,r0,r1,r2,r3,r4,r5,r6,r7,r8,r9,r10,r11,r12]) rfl ⟨(⟨4,v1,R4.zero,[],0,0,0,0,0,0⟩ : OpV),rfl,⟨(show 4 < 256 by decide),HV1.out,i64_z,i64_z,i64_z,i64_z,z64,z64,z64,z256,z64,i64_z⟩,rfl,rfl,(fun y oy gy hky hw => by
   obtain ⟨r,e,hr⟩:=hw
   obtain ⟨e1,e2⟩:=List.cons.inj e
   exact absurd e2 (by simp [usesR])),H15.out.bel⟩
set_option maxRecDepth 100000 in
set_option maxHeartbeats 4000000 in
theorem r9_fld_4_more (g o n c : Nat) (a1 a2 : List UInt8) (rest : List (List UInt8)) (w : World) (hk : (kCells g o [.string (byt a1),.string (byt a2)]).p w) (_hnc : n ≤ c) (hn : n = (a1 :: a2 :: rest).length) (hL : ∀ p ∈ a1 :: a2 :: rest,p.length ≤ 2000) :
  Calls Tryz.prog 42 #[.int .u8 4,.slice (some ⟨g,o,none⟩) n c] w (FldOut 4 (a1 :: a2 :: rest) w):=by
 have hg : g < w.heap.size:=hk.1
 simp only [List.length_cons] at hn
 have hb2 : (bits BinOp.and IntKind.i64 3 2 != 0) = true:=by decide
 have HN0:=keep hn
 have gn1 : 1 ≤ n:=by omega
 have H1:=Lib.hid ((((Ok.start w).add (kCells g o [.string (byt a1),.string (byt a2)]) hk).var w.heap.size 28 [.int .u8 0,.int .i64 0,.int .i64 0,.int .i64 0,.int .i64 0,.int .i64 0,.string ⟨#[]⟩,.int .u64 0,.int .u64 0,.int .u64 0,.int .u8 0,.int .u64 0,.int .i64 0] rfl).var (w.heap.size + 1) 28 [.int .u8 4,.int .i64 0,.int .i64 0,.int .i64 0,.int .i64 0,.int .i64 0,.string ⟨#[]⟩,.int .u64 0,.int .u64 0,.int .u64 0,.int .u8 0,.int .u64 0,.int .i64 0] (by simp))
 have ha1 : a1.length ≤ 2000:=hL a1 (by simp)
 have HN1:=keep (fun W => r9_ReadNumber (byt a1) ha1 W)
 have ha2 : a2.length ≤ 2000:=hL a2 (by simp)
 have HN2:=keep (fun W => r9_ReadRange (byt a2) ha2 W)
 clear hL hk ha1 ha2
 obtain ⟨rl,hrl⟩ : ∃ rl,rest.length = rl:=⟨_,rfl⟩
 rw [hrl] at hn
 clear hrl
 go_enter Tryz.func42,Tryz.ntmps42
 go_upto_region 2 with fail
 generalize ((w.alloc (.cells #[.int .u8 0,.int .i64 0,.int .i64 0,.int .i64 0,.int .i64 0,.int .i64 0,.string ⟨#[]⟩,.int .u64 0,.int .u64 0,.int .u64 0,.int .u8 0,.int .u64 0,.int .i64 0] 28)).alloc (.cells #[.int .u8 4,.int .i64 0,.int .i64 0,.int .i64 0,.int .i64 0,.int .i64 0,.string ⟨#[]⟩,.int .u64 0,.int .u64 0,.int .u64 0,.int .u8 0,.int .u64 0,.int .i64 0] 28)) = W2 at H1 ⊢
 have F3:=H1.out.sees
 simp only [sees,kVar,kCells,cellsFrom,Nat.add_zero,cellsAt,Nat.reduceAdd] at F3
 obtain ⟨⟨⟨z0,fz0⟩,q00,q01,q02,q03,q04,q05,q06,q07,q08,q09,q0a,q0b,q0c,-⟩,⟨⟨z1,fz1⟩,q10,q11,q12,q13,q14,q15,q16,q17,q18,q19,q1a,q1b,q1c,-⟩,⟨z2,q20,q21,-⟩,-⟩:=F3
 go_wp2_with fail
 refine (HN1.out _).mono ?_
 rintro e w4 ⟨v1,ok1,rfl,hv1,hq1,hb5⟩
 clear z0 fz0 q00 q01 q02 q03 q04 q05 q06 q07 q08 q09 q0a q0b q0c z1 fz1 q10 q11 q12 q13 q14 q15 q16 q17 q18 q19 q1a q1b q1c z2 q20 q21
 have HV1:=keep hv1
 have HQ1:=keep hq1
 have H6:=Lib.hid (H1.out.below hb5)
 clear hb5 H1 hv1 hq1
 have F7:=H6.out.sees
 simp only [sees,kVar,kCells,cellsFrom,Nat.add_zero,cellsAt,Nat.reduceAdd] at F7
 obtain ⟨⟨⟨z0,fz0⟩,q00,q01,q02,q03,q04,q05,q06,q07,q08,q09,q0a,q0b,q0c,-⟩,⟨⟨z1,fz1⟩,q10,q11,q12,q13,q14,q15,q16,q17,q18,q19,q1a,q1b,q1c,-⟩,⟨z2,q20,q21,-⟩,-⟩:=F7
 go_upto_region 3 with fail
 clear z0 fz0 q00 q01 q02 q03 q04 q05 q06 q07 q08 q09 q0a q0b q0c z1 fz1 q10 q11 q12 q13 q14 q15 q16 q17 q18 q19 q1a q1b q1c z2 q20 q21
 have hfar:=farOf H6.out (by simp [kCells,kVar] <;> omega)
 have H8:=Lib.hid (H6.out.set_ (i:=1) (u:=.int .i64 v1) (by omega) hfar)
 simp only [List.set_cons_zero,List.set_cons_succ] at H8
 clear hfar
 clear H6
 generalize (w4.setCell ⟨w.heap.size + 1,1,none⟩ (.int .i64 v1)) = W9 at H8 ⊢
 have F10:=H8.out.sees
 simp only [sees,kVar,kCells,cellsFrom,Nat.add_zero,cellsAt,Nat.reduceAdd] at F10
 obtain ⟨⟨⟨z0,fz0⟩,q00,q01,q02,q03,q04,q05,q06,q07,q08,q09,q0a,q0b,q0c,-⟩,⟨⟨z1,fz1⟩,q10,q11,q12,q13,q14,q15,q16,q17,q18,q19,q1a,q1b,q1c,-⟩,⟨z2,q20,q21,-⟩,-⟩:=F10
 go_wp2_with fail
 refine (r9_uses_4 _).mono ?_
 rintro e w11 ⟨rfl,hb12⟩
 clear z0 fz0 q00 q01 q02 q03 q04 q05 q06 q07 q08 q09 q0a q0b q0c z1 fz1 q10 q11 q12 q13 q14 q15 q16 q17 q18 q19 q1a q1b q1c z2 q20 q21
 have H13:=Lib.hid (H8.out.below hb12)
 clear hb12 H8
 have F14:=H13.out.sees
 simp only [sees,kVar,kCells,cellsFrom,Nat.add_zero,cellsAt,Nat.reduceAdd] at F14
 obtain ⟨⟨⟨z0,fz0⟩,q00,q01,q02,q03,q04,q05,q06,q07,q08,q09,q0a,q0b,q0c,-⟩,⟨⟨z1,fz1⟩,q10,q11,q12,q13,q14,q15,q16,q17,q18,q19,q1a,q1b,q1c,-⟩,⟨z2,q20,q21,-⟩,-⟩:=F14
 go_wp2_with fail
 refine (HN2.out _).mono ?_
 rintro e w15 ⟨⟨s1,s2,s3,s4⟩,ok2,rfl,hv2,hq2,hb16⟩
 clear z0 fz0 q00 q01 q02 q03 q04 q05 q06 q07 q08 q09 q0a q0b q0c z1 fz1 q10 q11 q12 q13 q14 q15 q16 q17 q18 q19 q1a q1b q1c z2 q20 q21
 have HV2:=keep hv2
 have HQ2:=keep hq2
 have H17:=Lib.hid (H13.out.below hb16)
 clear hb16 H13 hv2 hq2
 have F18:=H17.out.sees
 simp only [sees,kVar,kCells,cellsFrom,Nat.add_zero,cellsAt,Nat.reduceAdd] at F18
 obtain ⟨⟨⟨z0,fz0⟩,q00,q01,q02,q03,q04,q05,q06,q07,q08,q09,q0a,q0b,q0c,-⟩,⟨⟨z1,fz1⟩,q10,q11,q12,q13,q14,q15,q16,q17,q18,q19,q1a,q1b,q1c,-⟩,⟨z2,q20,q21,-⟩,-⟩:=F18
 go_upto_region 5 with fail
 clear z0 fz0 q00 q01 q02 q03 q04 q05 q06 q07 q08 q09 q0a q0b q0c z1 fz1 q10 q11 q12 q13 q14 q15 q16 q17 q18 q19 q1a q1b q1c z2 q20 q21
 have hfar:=farOf H17.out (by simp [kCells,kVar] <;> omega)
 have H19:=Lib.hid ((((H17.out.set_ (i:=2) (u:=.int .i64 s1) (by omega) hfar).set_ (i:=3) (u:=.int .i64 s2) (by omega) hfar).set_ (i:=4) (u:=.int .i64 s3) (by omega) hfar).set_ (i:=5) (u:=.int .i64 s4) (by omega) hfar)
 simp only [List.set_cons_zero,List.set_cons_succ] at H19
 clear hfar
 clear H17
 generalize ((((w15.setCell ⟨w.heap.size + 1,2,none⟩ (.int .i64 s1)).setCell ⟨w.heap.size + 1,3,none⟩ (.int .i64 s2)).setCell ⟨w.heap.size + 1,4,none⟩ (.int .i64 s3)).setCell ⟨w.heap.size + 1,5,none⟩ (.int .i64 s4)) = W20 at H19 ⊢
 have F21:=H19.out.sees
 simp only [sees,kVar,kCells,cellsFrom,Nat.add_zero,cellsAt,Nat.reduceAdd] at F21
 obtain ⟨⟨⟨z0,fz0⟩,q00,q01,q02,q03,q04,q05,q06,q07,q08,q09,q0a,q0b,q0c,-⟩,⟨⟨z1,fz1⟩,q10,q11,q12,q13,q14,q15,q16,q17,q18,q19,q1a,q1b,q1c,-⟩,⟨z2,q20,q21,-⟩,-⟩:=F21
 go_upto_region 15 with fail
 go_wp2_with fail
 clear z0 fz0 q00 q01 q02 q03 q04 q05 q06 q07 q08 q09 q0a q0b q0c z1 fz1 q10 q11 q12 q13 q14 q15 q16 q17 q18 q19 q1a q1b q1c z2 q20 q21
 have hfar:=farOf H19.out.b1 (by simp [kCells,kVar] <;> omega)
 have H22:=Lib.hid (((((((((((((H19.out.b1.set_ (i:=0) (u:=.int .u8 4) (by omega) hfar).set_ (i:=1) (u:=.int .i64 v1) (by omega) hfar).set_ (i:=2) (u:=.int .i64 s1) (by omega) hfar).set_ (i:=3) (u:=.int .i64 s2) (by omega) hfar).set_ (i:=4) (u:=.int .i64 s3) (by omega) hfar).set_ (i:=5) (u:=.int .i64 s4) (by omega) hfar).set_ (i:=6) (u:=.string ⟨#[]⟩) (by omega) hfar).set_ (i:=7) (u:=.int .u64 0) (by omega) hfar).set_ (i:=8) (u:=.int .u64 0) (by omega) hfar).set_ (i:=9) (u:=.int .u64 0) (by omega) hfar).set_ (i:=10) (u:=.int .u8 0) (by omega) hfar).set_ (i:=11) (u:=.int .u64 0) (by omega) hfar).set_ (i:=12) (u:=.int .i64 0) (by omega) hfar)
 simp only [List.set_cons_zero,List.set_cons_succ] at H22
 clear hfar
 have hK:=H22.out.get (kVar (w.heap.size) 28 [.int .u8 4,.int .i64 v1,.int .i64 s1,.int .i64 s2,.int .i64 s3,.int .i64 s4,.string ⟨#[]⟩,.int .u64 0,.int .u64 0,.int .u64 0,.int .u8 0,.int .u64 0,.int .i64 0]) (by simp)
 have hE:=(show Blk (((((((((((((W20.setCell ⟨w.heap.size,0,none⟩ (.int .u8 4)).setCell ⟨w.heap.size,1,none⟩ (.int .i64 v1)).setCell ⟨w.heap.size,2,none⟩ (.int .i64 s1)).setCell ⟨w.heap.size,3,none⟩ (.int .i64 s2)).setCell ⟨w.heap.size,4,none⟩ (.int .i64 s3)).setCell ⟨w.heap.size,5,none⟩ (.int .i64 s4)).setCell ⟨w.heap.size,6,none⟩ (.string ⟨#[]⟩)).setCell ⟨w.heap.size,7,none⟩ (.int .u64 0)).setCell ⟨w.heap.size,8,none⟩ (.int .u64 0)).setCell ⟨w.heap.size,9,none⟩ (.int .u64 0)).setCell ⟨w.heap.size,10,none⟩ (.int .u8 0)).setCell ⟨w.heap.size,11,none⟩ (.int .u64 0)).setCell ⟨w.heap.size,12,none⟩ (.int .i64 0)) (w.heap.size) 28 _ from hK)
 have r0:=hE.cell 0
 have r1:=hE.cell 1
 have r2:=hE.cell 2
 have r3:=hE.cell 3
 have r4:=hE.cell 4
 have r5:=hE.cell 5
 have r6:=hE.cell 6
 have r7:=hE.cell 7
 have r8:=hE.cell 8
 have r9:=hE.cell 9
 have r10:=hE.cell 10
 have r11:=hE.cell 11
 have r12:=hE.cell 12
 simp at r0 r1 r2 r3 r4 r5 r6 r7 r8 r9 r10 r11 r12
 exact bodyPost_ret (v:=.agg #[.int .u8 4,.int .i64 v1,.int .i64 s1,.int .i64 s2,.int .i64 s3,.int .i64 s4,.string ⟨#[]⟩,.int .u64 0,.int .u64 0,.int .u64 0,.int .u8 0,.int .u64 0,.int .i64 0]) (by simp [results,Tryz.results42,go_sem,r0,r1,r2,r3,r4,r5,r6,r7,r8,r9,r10,r11,r12]) rfl ⟨(⟨4,v1,⟨s1,s2,s3,s4⟩,[],0,0,0,0,0,0⟩ : OpV),rfl,⟨(show 4 < 256 by decide),HV1.out,HV2.out.1,HV2.out.2.1,HV2.out.2.2.1,HV2.out.2.2.2,z64,z64,z64,z256,z64,i64_z⟩,rfl,rfl,(fun y oy gy hky hw => by
   obtain ⟨r,e,hr⟩:=hw
   obtain ⟨e1,e2⟩:=List.cons.inj e
   obtain ⟨e3,e4⟩:=List.cons.inj (show a2 :: rest = rangeL y.rect :: r from e2)
   exact fld_eq _ y gy hky.symm (HQ1.out y.user oy.user e1) (by rw [hky]; exact HQ2.out y.rect ⟨oy.c1,oy.r1,oy.c2,oy.r2⟩ e3) rfl (by rw [hky]; rfl) (by rw [hky]; rfl) (by rw [hky]; rfl) (by rw [hky]; rfl) (by rw [hky]; rfl) (by rw [hky]; rfl)),H22.out.bel⟩
end Go.Proofs.YtjbimcdofenmdaaGreatDoor
