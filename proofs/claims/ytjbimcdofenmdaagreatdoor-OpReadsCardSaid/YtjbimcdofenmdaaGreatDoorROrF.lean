/- The reference of chapter 29: Format, whole. -/
import Derived.Test.YtjbimcdofenmdaaGreatDoorROrC
import Derived.Test.YtjbimcdofenmdaaGreatDoorROrE
namespace Go.Proofs.YtjbimcdofenmdaaGreatDoor
open Go.RowKit
set_option maxRecDepth 100000 in
set_option maxHeartbeats 4000000 in
theorem r9_fmt_bad (k : Nat) (u x1 y1 x2 y2 : Int) (inp : List UInt8) (a b c f t : Nat) (n : Int) (HC : ∀ W,Calls Tryz.prog 14 #[.agg #[.int .u8 (k : Nat),.int .i64 u,.int .i64 x1,.int .i64 y1,.int .i64 x2,.int .i64 y2,.string ⟨inp.toArray⟩,.int .u64 (a : Nat),.int .u64 (b : Nat),.int .u64 (c : Nat),.int .u8 (f : Nat),.int .u64 (t : Nat),.int .i64 n]] W fun e w' => e = .returned (.int .i64 4) ∧ Below W.heap.size W w') (w : World) :
  Calls Tryz.prog 12 #[.agg #[.int .u8 (k : Nat),.int .i64 u,.int .i64 x1,.int .i64 y1,.int .i64 x2,.int .i64 y2,.string ⟨inp.toArray⟩,.int .u64 (a : Nat),.int .u64 (b : Nat),.int .u64 (c : Nat),.int .u8 (f : Nat),.int .u64 (t : Nat),.int .i64 n]] w fun e w' => e = .returned (.tuple #[.string ⟨#[]⟩,.int .i64 4]) ∧ Below w.heap.size w w':=by
 have HC:=keep HC
 have H1:=Lib.hid ((Ok.start w).alloc w.heap.size 28 [.int .u8 (k : Nat),.int .i64 u,.int .i64 x1,.int .i64 y1,.int .i64 x2,.int .i64 y2,.string ⟨inp.toArray⟩,.int .u64 (a : Nat),.int .u64 (b : Nat),.int .u64 (c : Nat),.int .u8 (f : Nat),.int .u64 (t : Nat),.int .i64 n] rfl)
 go_enter Tryz.func12,Tryz.ntmps12
 go_upto_region 1 with fail
 generalize (w.alloc (.cells #[.int .u8 (k : Nat),.int .i64 u,.int .i64 x1,.int .i64 y1,.int .i64 x2,.int .i64 y2,.string ⟨inp.toArray⟩,.int .u64 (a : Nat),.int .u64 (b : Nat),.int .u64 (c : Nat),.int .u8 (f : Nat),.int .u64 (t : Nat),.int .i64 n] 28)) = W2 at H1 ⊢
 have F3:=H1.out.sees
 simp only [sees,kBlk,cellsAt,Nat.reduceAdd] at F3
 obtain ⟨⟨z0,q00,q01,q02,q03,q04,q05,q06,q07,q08,q09,q0a,q0b,q0c,-⟩,-⟩:=F3
 go_wp2_with fail
 refine (HC.out _).mono ?_
 rintro e w4 ⟨rfl,hb5⟩
 clear z0 q00 q01 q02 q03 q04 q05 q06 q07 q08 q09 q0a q0b q0c
 have H6:=Lib.hid (H1.out.below hb5)
 clear hb5 H1
 have F7:=H6.out.sees
 simp only [sees,kBlk,cellsAt,Nat.reduceAdd] at F7
 obtain ⟨⟨z0,q00,q01,q02,q03,q04,q05,q06,q07,q08,q09,q0a,q0b,q0c,-⟩,-⟩:=F7
 go_wp2_with fail
 try rw [Exit.noGoto_ret]
 exact bodyPost_ret (v:=.tuple #[.string ⟨#[]⟩,.int .i64 4]) (by simp [results,Tryz.results12,go_sem]) rfl ⟨rfl,H6.out.bel⟩
theorem r9_Format (x : OpV) (ho : x.Ok) (hs : x.input.length ≤ 4611686018427387904) (w : World) : Calls Tryz.prog 12 #[x.V] w fun e w' => e = .returned (.tuple #[.string ⟨(formatV x).1.toArray⟩,.int .i64 (formatV x).2]) ∧ Below w.heap.size w w':=by
 have HC:=fun W => r9_Check x W
 by_cases hg : goodV x
 case neg =>
  unfold formatV
  rw [if_neg hg]
  rw [show checkV x = 4 by unfold checkV; rw [if_neg hg]] at HC
  exact r9_fmt_bad _ _ _ _ _ _ _ _ _ _ _ _ _ HC w
 rw [show checkV x = 0 by unfold checkV; rw [if_pos hg]] at HC
 unfold formatV
 rw [if_pos hg]
 have hq : checkT x.input = 0:=by
  have:=hg.2.2.2.2.1
  unfold textB at this
  rw [Bool.and_eq_true,decide_eq_true_eq] at this
  unfold checkT
  rw [if_neg (by omega),if_pos this.2]
 have HQ:=fun W => ref4_Quote ⟨x.input.toArray⟩ W hs
 rw [show (⟨x.input.toArray⟩ : ByteArray).data.toList = x.input from rfl,show quoteT x.input = quoteS x.input by unfold quoteT; rw [if_pos hq],hq] at HQ
 have lQ : (quoteS x.input).length ≤ 600:=by
  have:=hg.2.2.2.2.1
  unfold textB at this
  rw [Bool.and_eq_true,decide_eq_true_eq] at this
  have h2:=quote_len2 x.input
  unfold quoteS
  simp only [List.length_cons,List.length_append,List.length_nil]; omega
 have HU:=fun W => r9_Number x.user ho.user W
 have lU:=itoa_len x.user ho.user
 have HR:=fun W => r9_Range x.rect ho.c1 ho.r1 ho.c2 ho.r2 W
 have lR : (rangeL x.rect).length ≤ 6001:=by
  unfold rangeL
  split
  ·exact fmtL_len _
  ·have:=comma_len x.rect ho.c1 ho.r1 ho.c2 ho.r2; omega
 have HG:=fun W => r9_Rights x.rd x.wr x.ow ho.rd ho.wr ho.ow W
 have HF:=fun W => r9_Number x.fns (dec_len20 _ ho.fns) W
 have lF:=itoa_len x.fns (dec_len20 _ ho.fns)
 have HT:=fun W => r18_Fmt x.tg ho.tg W
 have lT:=gfmtL_len x.tg
 have HI:=fun W => r9_Number x.idx ho.idx W
 have lI:=itoa_len x.idx ho.idx
 have lG : (Lib.join [gfmtL x.rd,gfmtL x.wr,gfmtL x.ow] [32]).length ≤ 40000:=by
  have g1:=gfmtL_len x.rd
  have g2:=gfmtL_len x.wr
  have g3:=gfmtL_len x.ow
  simp [Lib.join,List.intercalate]
  omega
 have hk1:=hg.1
 have hk2:=hg.2.1
 have hf:=ho.fns
 clear hg ho hs hq
 obtain ⟨k,u,⟨x1,y1,x2,y2⟩,inp,a,b,c,f,t,n⟩:=x
 dsimp only at *
 have h32 : (⟨#[32]⟩ : ByteArray) = ⟨[32].toArray⟩:=rfl
 have h : k = 1 ∨ k = 2 ∨ k = 3 ∨ k = 4 ∨ k = 5 ∨ k = 6 ∨ k = 7 ∨ k = 8 ∨ k = 9 ∨ k = 10:=by omega
 clear hk1 hk2
 rcases h with rfl | rfl | rfl | rfl | rfl | rfl | rfl | rfl | rfl | rfl
 ·refine (r9_fmt_1 u x1 y1 x2 y2 inp a b c f t n _ _ (show (⟨(wordK 1).toArray⟩ : ByteArray).size ≤ 100000 by decide) (by rw [ba_size]; omega) HC (fun W => r9_word 1 (by decide) (by decide) W) HU w).mono ?_
  rintro e w' ⟨rfl,hb⟩
  refine ⟨?_,hb⟩
  rw [h32]
  simp only [ba_app]
  unfold lineL lineW tailW
  simp [Lib.join,List.intercalate,usesR]
 ·refine (r9_fmt_2 u x1 y1 x2 y2 inp a b c f t n _ _ (show (⟨(wordK 2).toArray⟩ : ByteArray).size ≤ 100000 by decide) (by rw [ba_size]; omega) HC (fun W => r9_word 2 (by decide) (by decide) W) HU w).mono ?_
  rintro e w' ⟨rfl,hb⟩
  refine ⟨?_,hb⟩
  rw [h32]
  simp only [ba_app]
  unfold lineL lineW tailW
  simp [Lib.join,List.intercalate,usesR]
 ·refine (r9_fmt_3 u x1 y1 x2 y2 inp a b c f t n _ _ _ _ (show (⟨(wordK 3).toArray⟩ : ByteArray).size ≤ 100000 by decide) (by rw [ba_size]; omega) (by rw [ba_size]; omega) (by rw [ba_size]; omega) HC (fun W => r9_word 3 (by decide) (by decide) W) HU HR HQ w).mono ?_
  rintro e w' ⟨rfl,hb⟩
  refine ⟨?_,hb⟩
  rw [h32]
  simp only [ba_app]
  unfold lineL lineW tailW
  simp [Lib.join,List.intercalate,usesR]
 ·refine (r9_fmt_4 u x1 y1 x2 y2 inp a b c f t n _ _ _ (show (⟨(wordK 4).toArray⟩ : ByteArray).size ≤ 100000 by decide) (by rw [ba_size]; omega) (by rw [ba_size]; omega) HC (fun W => r9_word 4 (by decide) (by decide) W) HU HR w).mono ?_
  rintro e w' ⟨rfl,hb⟩
  refine ⟨?_,hb⟩
  rw [h32]
  simp only [ba_app]
  unfold lineL lineW tailW
  simp [Lib.join,List.intercalate,usesR]
 ·refine (r9_fmt_5 u x1 y1 x2 y2 inp a b c f t n _ _ _ (show (⟨(wordK 5).toArray⟩ : ByteArray).size ≤ 100000 by decide) (by rw [ba_size]; omega) (by rw [ba_size]; omega) HC (fun W => r9_word 5 (by decide) (by decide) W) HU HR w).mono ?_
  rintro e w' ⟨rfl,hb⟩
  refine ⟨?_,hb⟩
  rw [h32]
  simp only [ba_app]
  unfold lineL lineW tailW
  simp [Lib.join,List.intercalate,usesR]
 ·refine (r9_fmt_6 u x1 y1 x2 y2 inp a b c f t n _ _ _ (show (⟨(wordK 6).toArray⟩ : ByteArray).size ≤ 100000 by decide) (by rw [ba_size]; omega) (by rw [ba_size]; omega) HC (fun W => r9_word 6 (by decide) (by decide) W) HU HR w).mono ?_
  rintro e w' ⟨rfl,hb⟩
  refine ⟨?_,hb⟩
  rw [h32]
  simp only [ba_app]
  unfold lineL lineW tailW
  simp [Lib.join,List.intercalate,usesR]
 ·refine (r9_fmt_7 u x1 y1 x2 y2 inp a b c f t n _ _ _ _ (show (⟨(wordK 7).toArray⟩ : ByteArray).size ≤ 100000 by decide) (by rw [ba_size]; omega) (by rw [ba_size]; omega) (by rw [ba_size]; omega) HC (fun W => r9_word 7 (by decide) (by decide) W) HU HR HG w).mono ?_
  rintro e w' ⟨rfl,hb⟩
  refine ⟨?_,hb⟩
  rw [h32]
  simp only [ba_app]
  unfold lineL lineW tailW
  simp [Lib.join,List.intercalate,usesR]
 ·refine (r9_fmt_8 u x1 y1 x2 y2 inp a b c f t n _ _ _ _ _ (show (⟨(wordK 8).toArray⟩ : ByteArray).size ≤ 100000 by decide) (by rw [ba_size]; omega) (by rw [ba_size]; omega) (by rw [ba_size]; omega) (by rw [ba_size]; omega) HC (fun W => r9_word 8 (by decide) (by decide) W) HU HR HF HT hf w).mono ?_
  rintro e w' ⟨rfl,hb⟩
  refine ⟨?_,hb⟩
  rw [h32]
  simp only [ba_app]
  unfold lineL lineW tailW
  simp [Lib.join,List.intercalate,usesR]
 ·refine (r9_fmt_9 u x1 y1 x2 y2 inp a b c f t n _ _ _ (show (⟨(wordK 9).toArray⟩ : ByteArray).size ≤ 100000 by decide) (by rw [ba_size]; omega) (by rw [ba_size]; omega) HC (fun W => r9_word 9 (by decide) (by decide) W) HU HI w).mono ?_
  rintro e w' ⟨rfl,hb⟩
  refine ⟨?_,hb⟩
  rw [h32]
  simp only [ba_app]
  unfold lineL lineW tailW
  simp [Lib.join,List.intercalate,usesR]
 ·refine (r9_fmt_10 u x1 y1 x2 y2 inp a b c f t n _ _ (show (⟨(wordK 10).toArray⟩ : ByteArray).size ≤ 100000 by decide) (by rw [ba_size]; omega) HC (fun W => r9_word 10 (by decide) (by decide) W) HU w).mono ?_
  rintro e w' ⟨rfl,hb⟩
  refine ⟨?_,hb⟩
  rw [h32]
  simp only [ba_app]
  unfold lineL lineW tailW
  simp [Lib.join,List.intercalate,usesR]
end Go.Proofs.YtjbimcdofenmdaaGreatDoor
