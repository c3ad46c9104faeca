/- The contract of op.Format, at every operation. Plain: what is read is an operation. -/
import Derived.Test.YtjbimcdofenmdaaGreatDoorMOpE
import Derived.Test.YtjbimcdofenmdaaGreatDoorMOpF
namespace Go.Proofs.YtjbimcdofenmdaaGreatDoor
open Go.RowKit
set_option maxRecDepth 100000 in
set_option maxHeartbeats 4000000 in
theorem op_Format_bad (k : Nat) (u x1 y1 x2 y2 : Int) (inp : List UInt8) (a b c f t : Nat) (n : Int) (hg : ¬ goodV ⟨k,u,⟨x1,y1,x2,y2⟩,inp,a,b,c,f,t,n⟩) (hs : inp.length ≤ 4611686018427387904) (w : World) :
  Calls Tryz.prog 11 #[.agg #[.int .u8 (k : Nat),.int .i64 u,.int .i64 x1,.int .i64 y1,.int .i64 x2,.int .i64 y2,.string ⟨inp.toArray⟩,.int .u64 (a : Nat),.int .u64 (b : Nat),.int .u64 (c : Nat),.int .u8 (f : Nat),.int .u64 (t : Nat),.int .i64 n]] w fun e w' => e = .returned (.tuple #[.string ⟨#[]⟩,.int .i64 4]) ∧ Below w.heap.size w w':=by
 have HCV:=keep (show checkV ⟨k,u,⟨x1,y1,x2,y2⟩,inp,a,b,c,f,t,n⟩ = 4 by unfold checkV; rw [if_neg hg])
 clear hg
 have H11:=Lib.hid ((Ok.start w).alloc w.heap.size 28 [.int .u8 (k : Nat),.int .i64 u,.int .i64 x1,.int .i64 y1,.int .i64 x2,.int .i64 y2,.string ⟨inp.toArray⟩,.int .u64 (a : Nat),.int .u64 (b : Nat),.int .u64 (c : Nat),.int .u8 (f : Nat),.int .u64 (t : Nat),.int .i64 n] rfl)
 go_enter Tryz.func11,Tryz.ntmps11
 go_upto_region 1 with fail
 generalize (w.alloc (.cells #[.int .u8 (k : Nat),.int .i64 u,.int .i64 x1,.int .i64 y1,.int .i64 x2,.int .i64 y2,.string ⟨inp.toArray⟩,.int .u64 (a : Nat),.int .u64 (b : Nat),.int .u64 (c : Nat),.int .u8 (f : Nat),.int .u64 (t : Nat),.int .i64 n] 28)) = W12 at H11 ⊢
 have F13:=H11.out.sees
 simp only [sees,kBlk,cellsAt,Nat.reduceAdd] at F13
 obtain ⟨⟨z0,c0_0,c0_1,c0_2,c0_3,c0_4,c0_5,c0_6,c0_7,c0_8,c0_9,c0_10,c0_11,c0_12,-⟩,-⟩:=F13
 go_wp2_with fail
 refine (op_Check ⟨k,u,⟨x1,y1,x2,y2⟩,inp,a,b,c,f,t,n⟩ _ hs).mono ?_
 rintro e w14 ⟨rfl,hb15⟩
 rw [HCV.out]
 clear z0 c0_0 c0_1 c0_2 c0_3 c0_4 c0_5 c0_6 c0_7 c0_8 c0_9 c0_10 c0_11 c0_12
 have H16:=Lib.hid (H11.out.below hb15)
 clear hb15 H11
 go_wp2_with fail
 exact bodyPost_ret (v:=.tuple #[.string ⟨#[]⟩,.int .i64 4]) (by simp [results,Tryz.results11,go_sem]) rfl ⟨rfl,H16.out.bel⟩
theorem op_Format (x : OpV) (ho : x.Ok) (hs : x.input.length ≤ 4611686018427387904) (w : World) (he : Env6 w) :
  Calls Tryz.prog 11 #[x.V] w fun e w' => e = .returned (.tuple #[.string ⟨(formatV x).1.toArray⟩,.int .i64 (formatV x).2]) ∧ Below w.heap.size w w':=by
 by_cases hg : goodV x
 ·exact op_Format_good x.kind _ _ _ _ _ _ _ _ _ _ _ _ hg ho w he
 ·have h:=op_Format_bad x.kind _ _ _ _ _ _ _ _ _ _ _ _ hg hs w
  have e : formatV x = ([],4):=by unfold formatV; rw [if_neg hg]
  rw [e]
  exact h
theorem rangeP_i64 {l : List UInt8} {r : R4} (h : rangeP l = some r) : i64B r.c1 ∧ i64B r.r1 ∧ i64B r.c2 ∧ i64B r.r2:=by
 unfold rangeP at h
 by_cases h0 : (parseR l).2 = 0
 ·rw [if_pos h0] at h
  obtain rfl:=Option.some.inj h
  have hc:=(checkB_iff _).1 (parse_check l h0)
  unfold i64B
  omega
 ·rw [if_neg h0] at h
  unfold commaP at h
  split at h
  ·rename_i a b c d _
   cases ha : numP a with
   | none => rw [ha] at h; cases h
   | some a' =>
   cases hb : numP b with
   | none => rw [ha,hb] at h; cases h
   | some b' =>
   cases hc : numP c with
   | none => rw [ha,hb,hc] at h; cases h
   | some c' =>
   cases hd : numP d with
   | none => rw [ha,hb,hc,hd] at h; cases h
   | some d' =>
   rw [ha,hb,hc,hd] at h
   simp only [Option.bind_some] at h
   obtain rfl:=Option.some.inj h
   exact ⟨numP_i64 ha,numP_i64 hb,numP_i64 hc,numP_i64 hd⟩
  ·cases h
theorem setP_lt {l : List UInt8} {s : Nat} (h : setP l = some s) : s < 18446744073709551616:=by
 unfold setP at h
 rcases parseG_cases l with e | ⟨t,ht,-,e⟩
 ·rw [e] at h; cases h
 ·rw [e] at h
  obtain rfl:=Option.some.inj h
  exact ht
theorem unqV_len (l : List UInt8) : (unqV l).1.length ≤ 256:=by
 unfold unqV
 split
 ·split
  ·split
   ·assumption
   ·decide
  ·decide
 ·decide
theorem kindP_le (w : List UInt8) : kindP w ≤ 10:=by
 have key : ∀ i,((List.range i).foldl (fun o k => if k ≠ 0 ∧ wordK k = w then k else o) 0) ≤ i - 1:=by
  intro i
  induction i with
  | zero => exact Nat.le_refl _
  | succ i ih =>
   rw [List.range_succ,List.foldl_append]
   show (if i ≠ 0 ∧ wordK i = w then i else _) ≤ _
   split <;> omega
 exact key 11
theorem tail_ok {x y : OpV} {l : List UInt8} (hx : x.Ok) (hi : x.input.length ≤ 256) (h : tailP x l = some y) : y.Ok ∧ y.input.length ≤ 256:=by
 unfold tailP at h
 split at h
 ·split at h
  ·obtain rfl:=Option.some.inj h
   exact ⟨⟨hx.kind,hx.user,hx.c1,hx.r1,hx.c2,hx.r2,hx.rd,hx.wr,hx.ow,hx.fns,hx.tg,hx.idx⟩,unqV_len l⟩
  ·cases h
 split at h
 ·cases ha : setP (fstW l) with
  | none => rw [ha] at h; cases h
  | some a =>
  cases hb : setP (fstW (sndW l)) with
  | none => rw [ha,hb] at h; cases h
  | some b =>
  cases hc : setP (fstW (sndW (sndW l))) with
  | none => rw [ha,hb,hc] at h; cases h
  | some c =>
  rw [ha,hb,hc] at h
  obtain rfl:=Option.some.inj h
  exact ⟨⟨hx.kind,hx.user,hx.c1,hx.r1,hx.c2,hx.r2,setP_lt ha,setP_lt hb,setP_lt hc,hx.fns,hx.tg,hx.idx⟩,hi⟩
 split at h
 ·cases ha : numP (fstW l) with
  | none => rw [ha] at h; cases h
  | some n =>
  rw [ha] at h
  simp only [Option.bind_some] at h
  split at h
  ·cases hb : setP (fstW (sndW l)) with
   | none => rw [hb] at h; cases h
   | some b =>
   rw [hb] at h
   obtain rfl:=Option.some.inj h
   exact ⟨⟨hx.kind,hx.user,hx.c1,hx.r1,hx.c2,hx.r2,hx.rd,hx.wr,hx.ow,(by show n.toNat < 256; omega),setP_lt hb,hx.idx⟩,hi⟩
  ·cases h
 split at h
 ·cases ha : numP (fstW l) with
  | none => rw [ha] at h; cases h
  | some n =>
  rw [ha] at h
  obtain rfl:=Option.some.inj h
  exact ⟨⟨hx.kind,hx.user,hx.c1,hx.r1,hx.c2,hx.r2,hx.rd,hx.wr,hx.ow,hx.fns,hx.tg,numP_i64 ha⟩,hi⟩
 ·obtain rfl:=Option.some.inj h
  exact ⟨hx,hi⟩
theorem read_ok {l : List UInt8} {x : OpV} (h : readV l = some x) : x.Ok ∧ x.input.length ≤ 256:=by
 have z : i64B 0:=⟨by decide,by decide⟩
 have z0 : (0 : Nat) < 18446744073709551616:=by decide
 have z1 : (0 : Nat) < 256:=by decide
 unfold readV at h
 split at h
 ·cases h
 cases hu : numP (fstW (sndW l)) with
 | none => rw [hu] at h; cases h
 | some u =>
 rw [hu] at h
 simp only [Option.bind_some] at h
 have hk:=kindP_le (fstW l)
 split at h
 ·cases hr : rangeP (fstW (sndW (sndW l))) with
  | none => rw [hr] at h; cases h
  | some r =>
  rw [hr] at h
  simp only [Option.bind_some] at h
  obtain ⟨a,b,c,d⟩:=rangeP_i64 hr
  exact tail_ok (x:=⟨kindP (fstW l),u,r,[],0,0,0,0,0,0⟩) ⟨(by show kindP (fstW l) < 256; omega),numP_i64 hu,a,b,c,d,z0,z0,z0,z1,z0,z⟩ (Nat.zero_le _) h
 ·exact tail_ok (x:=⟨kindP (fstW l),u,R4.zero,[],0,0,0,0,0,0⟩) ⟨(by show kindP (fstW l) < 256; omega),numP_i64 hu,z,z,z,z,z0,z0,z0,z1,z0,z⟩ (Nat.zero_le _) h
theorem parsed_some {l : List UInt8} {x : OpV} (h : readV l = some x) (hg : formatV x = (l,0)) : ParsedAs l x 0:=by
 refine .inl ⟨rfl,(read_ok h).1,?_⟩
 unfold formatV at hg
 split at hg
 ·next hgx => exact ⟨hgx,(Prod.mk.inj hg).1⟩
 ·cases (Prod.mk.inj hg).2
theorem parsed_not {l : List UInt8} {x : OpV} (h : readV l = some x) (hg : formatV x ≠ (l,0)) : ParsedAs l OpV.zero 4:=by
 refine .inr ⟨rfl,rfl,fun y oy gy e => hg ?_⟩
 have h1:=read_back y gy oy
 rw [e,h] at h1
 obtain rfl:=Option.some.inj h1
 unfold formatV
 rw [if_pos gy,e]
theorem parsed_none {l : List UInt8} (h : readV l = none) : ParsedAs l OpV.zero 4:=by
 refine .inr ⟨rfl,rfl,fun y oy gy e => ?_⟩
 have h1:=read_back y gy oy
 rw [e,h] at h1
 cases h1
end Go.Proofs.YtjbimcdofenmdaaGreatDoor
