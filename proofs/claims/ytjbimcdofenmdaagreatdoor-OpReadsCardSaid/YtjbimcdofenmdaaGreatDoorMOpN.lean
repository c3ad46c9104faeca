/- An operation that is handed in, as the model's laws read it. The contract of the laws' fixed operation. The row's own conditions as facts of the world. -/
import Derived.Test.YtjbimcdofenmdaaGreatDoorMOpK
import Derived.Lib.SmallJoins
import Derived.OpenShut
import Derived.ShutString
import Derived.ChangeOld
import Derived.SizedLaws
namespace Go.Proofs.YtjbimcdofenmdaaGreatDoor
open Go.ChangeShapes Go.WideShapes Go.ChangeAt Go.RowKit Go.Joins
theorem thirteen {α : Type} {l : List α} (h : l.length = 13) : ∃ v0 v1 v2 v3 v4 v5 v6 v7 v8 v9 v10 v11 v12,l = [v0,v1,v2,v3,v4,v5,v6,v7,v8,v9,v10,v11,v12]:=by
 match l,h with
 | [v0,v1,v2,v3,v4,v5,v6,v7,v8,v9,v10,v11,v12],_ => exact ⟨v0,v1,v2,v3,v4,v5,v6,v7,v8,v9,v10,v11,v12,rfl⟩
theorem wf_u8 {n : Int} (h : (Lit.int .u8 n).wf = true) : 0 ≤ n ∧ n < 256:=by
 simp [Lit.wf] at h
 have h0 : IntKind.u8.min = 0:=rfl
 have h1 : IntKind.u8.max = 255:=rfl
 omega
theorem wf_u64 {n : Int} (h : (Lit.int .u64 n).wf = true) : 0 ≤ n ∧ n < 18446744073709551616:=by
 simp [Lit.wf] at h
 have h0 : IntKind.u64.min = 0:=rfl
 have h1 : IntKind.u64.max = 18446744073709551615:=rfl
 omega
theorem wf_i64 {n : Int} (h : (Lit.int .i64 n).wf = true) : i64B n:=by
 simp [Lit.wf] at h
 have h0 : IntKind.i64.min = -9223372036854775808:=rfl
 have h1 : IntKind.i64.max = 9223372036854775807:=rfl
 unfold i64B
 omega
set_option maxRecDepth 100000 in
theorem op_given {H : Type} {enc : TypeId × Value → H} {w : World} {base : Nat} {spare : Nat → Bool} {held : Bool} {r : Reach} {b0 : Nat} {v : Value} {d : DataW H} {p : List MemPlace}
  (hv : Value.okWide Tryz.prog w r b0 28 v) (h : DataW.Trod enc Tryz.prog w base spare held 28 v d p) : ∃ x : OpV,v = x.V ∧ x.Ok:=by
 obtain ⟨cs,rfl,hsz⟩:=okWide_struct Tryz.underlying28 hv
 have hc13 : Tryz.prog.cellsOf 28 = 13:=by kernel_rfl
 obtain ⟨l⟩:=cs
 obtain ⟨v0,v1,v2,v3,v4,v5,v6,v7,v8,v9,v10,v11,v12,rfl⟩:=thirteen (l:=l) (hsz.trans hc13)
 obtain ⟨fuel,ht⟩:=h
 obtain ⟨ys,k,-,-,-,hyl,hf⟩:=DataW.trod_struct Tryz.underlying28 ht
 have hyl : ys.length = 8:=hyl
 have hy : ∀ j,j < 8 → ∃ y,ys[j]? = some y:=fun j hj => ⟨_,List.getElem?_eq_getElem (by omega)⟩
 have c1 : Tryz.prog.cellsOf 5 = 1:=by kernel_rfl
 have c2 : Tryz.prog.cellsOf 3 = 1:=by kernel_rfl
 have c3 : Tryz.prog.cellsOf 9 = 1:=by kernel_rfl
 have c4 : Tryz.prog.cellsOf 23 = 4:=by kernel_rfl
 have c5 : Tryz.prog.cellsOf 24 = 1:=by kernel_rfl
 have c6 : Tryz.prog.cellsOf 26 = 3:=by kernel_rfl
 obtain ⟨y0,e0⟩:=hy 0 (by decide)
 have f0 : DataW.trod enc Tryz.prog w base spare held k 5 (([v0,v1,v2,v3,v4,v5,v6,v7,v8,v9,v10,v11,v12].drop 0).take (Tryz.prog.cellsOf 5)) = ys[0]?:=hf 0 _ rfl
 rw [c1,e0] at f0
 obtain ⟨y1,e1⟩:=hy 1 (by decide)
 have f1 : DataW.trod enc Tryz.prog w base spare held k 3 (([v0,v1,v2,v3,v4,v5,v6,v7,v8,v9,v10,v11,v12].drop 1).take (Tryz.prog.cellsOf 3)) = ys[1]?:=hf 1 _ rfl
 rw [c2,e1] at f1
 obtain ⟨y2,e2⟩:=hy 2 (by decide)
 have f2 : DataW.trod enc Tryz.prog w base spare held k 23 (([v0,v1,v2,v3,v4,v5,v6,v7,v8,v9,v10,v11,v12].drop 2).take (Tryz.prog.cellsOf 23)) = ys[2]?:=hf 2 _ rfl
 rw [c4,e2] at f2
 obtain ⟨y3,e3⟩:=hy 3 (by decide)
 have f3 : DataW.trod enc Tryz.prog w base spare held k 9 (([v0,v1,v2,v3,v4,v5,v6,v7,v8,v9,v10,v11,v12].drop 6).take (Tryz.prog.cellsOf 9)) = ys[3]?:=hf 3 _ rfl
 rw [c3,e3] at f3
 obtain ⟨y4,e4⟩:=hy 4 (by decide)
 have f4 : DataW.trod enc Tryz.prog w base spare held k 26 (([v0,v1,v2,v3,v4,v5,v6,v7,v8,v9,v10,v11,v12].drop 7).take (Tryz.prog.cellsOf 26)) = ys[4]?:=hf 4 _ rfl
 rw [c6,e4] at f4
 obtain ⟨y5,e5⟩:=hy 5 (by decide)
 have f5 : DataW.trod enc Tryz.prog w base spare held k 5 (([v0,v1,v2,v3,v4,v5,v6,v7,v8,v9,v10,v11,v12].drop 10).take (Tryz.prog.cellsOf 5)) = ys[5]?:=hf 5 _ rfl
 rw [c1,e5] at f5
 obtain ⟨y6,e6⟩:=hy 6 (by decide)
 have f6 : DataW.trod enc Tryz.prog w base spare held k 24 (([v0,v1,v2,v3,v4,v5,v6,v7,v8,v9,v10,v11,v12].drop 11).take (Tryz.prog.cellsOf 24)) = ys[6]?:=hf 6 _ rfl
 rw [c5,e6] at f6
 obtain ⟨y7,e7⟩:=hy 7 (by decide)
 have f7 : DataW.trod enc Tryz.prog w base spare held k 3 (([v0,v1,v2,v3,v4,v5,v6,v7,v8,v9,v10,v11,v12].drop 12).take (Tryz.prog.cellsOf 3)) = ys[7]?:=hf 7 _ rfl
 rw [c2,e7] at f7
 obtain ⟨n0,g0,-,w0⟩:=DataW.trod_int Tryz.underlying5 f0
 obtain ⟨n1,g1,-,w1⟩:=DataW.trod_int Tryz.underlying3 f1
 obtain ⟨s3,g3,-,w3⟩:=DataW.trod_string Tryz.underlying9 f3
 obtain ⟨n5,g5,-,w5⟩:=DataW.trod_int Tryz.underlying5 f5
 obtain ⟨n6,g6,-,w6⟩:=DataW.trod_int Tryz.underlying24 f6
 obtain ⟨n7,g7,-,w7⟩:=DataW.trod_int Tryz.underlying3 f7
 obtain ⟨zs2,q2,-,-,-,zl2,hz2⟩:=DataW.trod_struct Tryz.underlying23 f2
 have zl2 : zs2.length = 4:=zl2
 have hx2 : ∀ j,j < 4 → ∃ y,zs2[j]? = some y:=fun j hj => ⟨_,List.getElem?_eq_getElem (by omega)⟩
 obtain ⟨x2_0,d2_0⟩:=hx2 0 (by decide)
 have h2_0 : DataW.trod enc Tryz.prog w base spare held q2 3 (((([v0,v1,v2,v3,v4,v5,v6,v7,v8,v9,v10,v11,v12].drop 2).take 4).drop 0).take (Tryz.prog.cellsOf 3)) = zs2[0]?:=hz2 0 _ rfl
 rw [c2,d2_0] at h2_0
 obtain ⟨r2_0,p2_0,-,u2_0⟩:=DataW.trod_int Tryz.underlying3 h2_0
 obtain ⟨x2_1,d2_1⟩:=hx2 1 (by decide)
 have h2_1 : DataW.trod enc Tryz.prog w base spare held q2 3 (((([v0,v1,v2,v3,v4,v5,v6,v7,v8,v9,v10,v11,v12].drop 2).take 4).drop 1).take (Tryz.prog.cellsOf 3)) = zs2[1]?:=hz2 1 _ rfl
 rw [c2,d2_1] at h2_1
 obtain ⟨r2_1,p2_1,-,u2_1⟩:=DataW.trod_int Tryz.underlying3 h2_1
 obtain ⟨x2_2,d2_2⟩:=hx2 2 (by decide)
 have h2_2 : DataW.trod enc Tryz.prog w base spare held q2 3 (((([v0,v1,v2,v3,v4,v5,v6,v7,v8,v9,v10,v11,v12].drop 2).take 4).drop 2).take (Tryz.prog.cellsOf 3)) = zs2[2]?:=hz2 2 _ rfl
 rw [c2,d2_2] at h2_2
 obtain ⟨r2_2,p2_2,-,u2_2⟩:=DataW.trod_int Tryz.underlying3 h2_2
 obtain ⟨x2_3,d2_3⟩:=hx2 3 (by decide)
 have h2_3 : DataW.trod enc Tryz.prog w base spare held q2 3 (((([v0,v1,v2,v3,v4,v5,v6,v7,v8,v9,v10,v11,v12].drop 2).take 4).drop 3).take (Tryz.prog.cellsOf 3)) = zs2[3]?:=hz2 3 _ rfl
 rw [c2,d2_3] at h2_3
 obtain ⟨r2_3,p2_3,-,u2_3⟩:=DataW.trod_int Tryz.underlying3 h2_3
 obtain ⟨zs4,q4,-,-,-,zl4,hz4⟩:=DataW.trod_struct Tryz.underlying26 f4
 have zl4 : zs4.length = 3:=zl4
 have hx4 : ∀ j,j < 3 → ∃ y,zs4[j]? = some y:=fun j hj => ⟨_,List.getElem?_eq_getElem (by omega)⟩
 obtain ⟨x4_0,d4_0⟩:=hx4 0 (by decide)
 have h4_0 : DataW.trod enc Tryz.prog w base spare held q4 24 (((([v0,v1,v2,v3,v4,v5,v6,v7,v8,v9,v10,v11,v12].drop 7).take 3).drop 0).take (Tryz.prog.cellsOf 24)) = zs4[0]?:=hz4 0 _ rfl
 rw [c5,d4_0] at h4_0
 obtain ⟨r4_0,p4_0,-,u4_0⟩:=DataW.trod_int Tryz.underlying24 h4_0
 obtain ⟨x4_1,d4_1⟩:=hx4 1 (by decide)
 have h4_1 : DataW.trod enc Tryz.prog w base spare held q4 24 (((([v0,v1,v2,v3,v4,v5,v6,v7,v8,v9,v10,v11,v12].drop 7).take 3).drop 1).take (Tryz.prog.cellsOf 24)) = zs4[1]?:=hz4 1 _ rfl
 rw [c5,d4_1] at h4_1
 obtain ⟨r4_1,p4_1,-,u4_1⟩:=DataW.trod_int Tryz.underlying24 h4_1
 obtain ⟨x4_2,d4_2⟩:=hx4 2 (by decide)
 have h4_2 : DataW.trod enc Tryz.prog w base spare held q4 24 (((([v0,v1,v2,v3,v4,v5,v6,v7,v8,v9,v10,v11,v12].drop 7).take 3).drop 2).take (Tryz.prog.cellsOf 24)) = zs4[2]?:=hz4 2 _ rfl
 rw [c5,d4_2] at h4_2
 obtain ⟨r4_2,p4_2,-,u4_2⟩:=DataW.trod_int Tryz.underlying24 h4_2
 simp at g0 g1 g3 g5 g6 g7 p2_0 p2_1 p2_2 p2_3 p4_0 p4_1 p4_2
 have b0:=wf_u8 w0
 have b5:=wf_u8 w5
 have b6:=wf_u64 w6
 have b40:=wf_u64 u4_0
 have b41:=wf_u64 u4_1
 have b42:=wf_u64 u4_2
 obtain ⟨mn0,hmn0⟩ : ∃ m : Nat,(m : Int) = n0:=⟨n0.toNat,by omega⟩
 subst hmn0
 obtain ⟨mn5,hmn5⟩ : ∃ m : Nat,(m : Int) = n5:=⟨n5.toNat,by omega⟩
 subst hmn5
 obtain ⟨mn6,hmn6⟩ : ∃ m : Nat,(m : Int) = n6:=⟨n6.toNat,by omega⟩
 subst hmn6
 obtain ⟨mr4_0,hmr4_0⟩ : ∃ m : Nat,(m : Int) = r4_0:=⟨r4_0.toNat,by omega⟩
 subst hmr4_0
 obtain ⟨mr4_1,hmr4_1⟩ : ∃ m : Nat,(m : Int) = r4_1:=⟨r4_1.toNat,by omega⟩
 subst hmr4_1
 obtain ⟨mr4_2,hmr4_2⟩ : ∃ m : Nat,(m : Int) = r4_2:=⟨r4_2.toNat,by omega⟩
 subst hmr4_2
 refine ⟨⟨mn0,n1,⟨r2_0,r2_1,r2_2,r2_3⟩,s3.data.toList,mr4_0,mr4_1,mr4_2,mn5,mn6,n7⟩,?_,?_⟩
 ·rw [g0,g1,g3,g5,g6,g7,p2_0,p2_1,p2_2,p2_3,p4_0,p4_1,p4_2]
  rfl
 ·exact ⟨(by show mn0 < 256; omega),wf_i64 w1,wf_i64 u2_0,wf_i64 u2_1,wf_i64 u2_2,wf_i64 u2_3,(by show mr4_0 < 18446744073709551616; omega),(by show mr4_1 < 18446744073709551616; omega),(by show mr4_2 < 18446744073709551616; omega),(by show mn5 < 256; omega),(by show mn6 < 18446744073709551616; omega),wf_i64 w7⟩
end Go.Proofs.YtjbimcdofenmdaaGreatDoor
namespace Go.Proofs.YtjbimcdofenmdaaGreatDoor
open Go.RowKit
def knownV : OpV:=⟨4,1,⟨1,1,2,2⟩,[],0,0,0,0,0,0⟩
def auditV : OpV:=⟨10,2,R4.zero,[],0,0,0,0,0,0⟩
theorem knownV_ok : knownV.Ok:=by
 constructor <;> first | decide | exact ⟨by decide,by decide⟩
theorem auditV_ok : auditV.Ok:=by
 constructor <;> first | decide | exact ⟨by decide,by decide⟩
theorem knownV_good : goodV knownV:=by decide
theorem auditV_good : goodV auditV:=by decide
theorem knownV_line : lineL knownV = [99,108,101,97,114,32,49,32,65,49,58,66,50]:=by kernel_rfl
theorem auditV_line : lineL auditV = [97,117,100,105,116,32,50]:=by kernel_rfl
theorem known_parse (w : World) (he : Env6 w) : Calls Tryz.prog 19 #[.string ⟨#[99,108,101,97,114,32,49,32,65,49,58,66,50]⟩] w fun e w' => e = .returned (.tuple #[.agg #[.int .u8 4,.int .i64 1,.int .i64 1,.int .i64 1,.int .i64 2,.int .i64 2,.string ⟨#[]⟩,.int .u64 0,.int .u64 0,.int .u64 0,.int .u8 0,.int .u64 0,.int .i64 0],.int .i64 0]) ∧ Below w.heap.size w w':=by
 refine (op_Parse [99,108,101,97,114,32,49,32,65,49,58,66,50] w (by decide) he).mono ?_
 rintro e w1 ⟨x,err,rfl,hp,hb⟩
 obtain ⟨rfl,rfl⟩:=hp.same (y:=knownV) (f:=0) (.inl ⟨rfl,knownV_ok,knownV_good,knownV_line⟩)
 exact ⟨rfl,hb⟩
theorem audit_format (w : World) (he : Env6 w) : Calls Tryz.prog 11 #[.agg #[.int .u8 10,.int .i64 2,.int .i64 0,.int .i64 0,.int .i64 0,.int .i64 0,.string ⟨#[]⟩,.int .u64 0,.int .u64 0,.int .u64 0,.int .u8 0,.int .u64 0,.int .i64 0]] w fun e w' => e = .returned (.tuple #[.string ⟨#[97,117,100,105,116,32,50]⟩,.int .i64 0]) ∧ Below w.heap.size w w':=by
 have h:=op_Format auditV auditV_ok (Nat.zero_le _) w he
 rw [show formatV auditV = ([97,117,100,105,116,32,50],0) by unfold formatV; rw [if_pos auditV_good,auditV_line]] at h
 exact h
set_option maxRecDepth 100000 in
set_option maxHeartbeats 4000000 in
theorem law_known (w : World) (he : Env6 w) : Calls Tryz.prog 8 #[] w fun e w' => e = .returned (.bool true) ∧ Below w.heap.size w w':=by
 have HE:=keep he
 clear he
 have H1:=Lib.hid (Ok.start w)
 go_enter Tryz.func8,Tryz.ntmps8
 go_wp2_with fail
 refine (known_parse _ (HE.out.below H1.out.bel)).mono ?_
 rintro e w2 ⟨rfl,hb3⟩
 have H4:=Lib.hid (H1.out.below hb3)
 clear hb3 H1
 go_upto_region 2 with fail
 have H5:=Lib.hid (H4.out.alloc w2.heap.size 28 [.int .u8 4,.int .i64 1,.int .i64 1,.int .i64 1,.int .i64 2,.int .i64 2,.string ⟨#[]⟩,.int .u64 0,.int .u64 0,.int .u64 0,.int .u8 0,.int .u64 0,.int .i64 0] rfl)
 clear H4
 generalize (w2.alloc (.cells #[.int .u8 4,.int .i64 1,.int .i64 1,.int .i64 1,.int .i64 2,.int .i64 2,.string ⟨#[]⟩,.int .u64 0,.int .u64 0,.int .u64 0,.int .u8 0,.int .u64 0,.int .i64 0] 28)) = W6 at H5 ⊢
 go_wp2_with fail
 refine (audit_format _ (HE.out.below H5.out.bel)).mono ?_
 rintro e w7 ⟨rfl,hb8⟩
 have H9:=Lib.hid (H5.out.below hb8)
 clear hb8 H5
 have F10:=H9.out.sees
 simp only [sees,kBlk,cellsAt,Nat.reduceAdd] at F10
 obtain ⟨⟨z0,c0_0,c0_1,c0_2,c0_3,c0_4,c0_5,c0_6,c0_7,c0_8,c0_9,c0_10,c0_11,c0_12,-⟩,-⟩:=F10
 go_wp2_with fail
 refine (op_Mutates knownV _).mono ?_
 rintro e w11 ⟨rfl,hb12⟩
 clear z0 c0_0 c0_1 c0_2 c0_3 c0_4 c0_5 c0_6 c0_7 c0_8 c0_9 c0_10 c0_11 c0_12
 have H13:=Lib.hid (H9.out.below hb12)
 clear hb12 H9
 have F14:=H13.out.sees
 simp only [sees,kBlk,cellsAt,Nat.reduceAdd] at F14
 obtain ⟨⟨z0,c0_0,c0_1,c0_2,c0_3,c0_4,c0_5,c0_6,c0_7,c0_8,c0_9,c0_10,c0_11,c0_12,-⟩,-⟩:=F14
 rw [show mutV knownV.kind = true from rfl]
 go_wp2_with fail
 go_ret
 exact ⟨rfl,H13.out.bel⟩
end Go.Proofs.YtjbimcdofenmdaaGreatDoor
namespace Go.Proofs.YtjbimcdofenmdaaGreatDoor
open Go.RowKit
theorem env6_of {W : World} {l : List (String × DataW Unit)} (h : laidMetH Tryz.prog l W) (hS : W.ShapedOpen Tryz.prog)
  (hp : l.filter (fun x => x.1 == "internal/strconv.uint64pow10") = [("internal/strconv.uint64pow10", Rows.laid_internal_strconv_uint64pow10)])
  (hl : l.filter (fun x => x.1 == "math/bits.deBruijn64tab") = [("math/bits.deBruijn64tab", Rows.laid_math_bits_deBruijn64tab)])
  (hs : l.filter (fun x => x.1 == "strconv.ErrSyntax") = [("strconv.ErrSyntax", Rows.laid_strconv_ErrSyntax)])
  (hr : l.filter (fun x => x.1 == "strconv.ErrRange") = [("strconv.ErrRange", Rows.laid_strconv_ErrRange)]) : Env6 W := ⟨pow_of_laid h hp, env_of h hS hl hs hr⟩
end Go.Proofs.YtjbimcdofenmdaaGreatDoor
