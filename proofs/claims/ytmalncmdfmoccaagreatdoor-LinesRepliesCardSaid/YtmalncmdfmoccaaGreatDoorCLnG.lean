/- Chapter 42: a reply that is handed in; LinesTells with the row's own conditions. -/
import Derived.Test.YtmalncmdfmoccaaGreatDoorCLnK
import Derived.Test.YtmalncmdfmoccaaGreatDoorCGiv
import Derived.Test.YtmalncmdfmoccaaGreatDoorCGrpF
import Derived.Test.YtmalncmdfmoccaaGreatDoorCAddrW3
import Derived.Lib.SmallJoins
import Derived.OpenShut
import Derived.ShutString
import Derived.ChangeOld
import Derived.SizedLaws
namespace Go.Proofs.YtmalncmdfmoccaaGreatDoor
open Go.ChangeShapes Go.WideShapes Go.ChangeAt Go.RowKit Go.Joins
theorem wq_u8 {n : Int} (h : (Lit.int .u8 n).wf = true) : 0 ≤ n ∧ n < 256:=by
  simp [Lit.wf] at h
  have h0 : IntKind.u8.min = 0:=rfl
  have h1 : IntKind.u8.max = 255:=rfl
  omega
theorem wq_u64 {n : Int} (h : (Lit.int .u64 n).wf = true) : 0 ≤ n ∧ n < 18446744073709551616:=by
  simp [Lit.wf] at h
  have h0 : IntKind.u64.min = 0:=rfl
  have h1 : IntKind.u64.max = 18446744073709551615:=rfl
  omega
theorem wq_i64 {n : Int} (h : (Lit.int .i64 n).wf = true) : i64B n:=by
  simp [Lit.wf] at h
  have h0 : IntKind.i64.min = -9223372036854775808:=rfl
  have h1 : IntKind.i64.max = 9223372036854775807:=rfl
  unfold i64B
  omega
theorem gl_u8 : Flat Tryz.prog 5 [.int .u8]:=.int (by kernel_rfl)
theorem gl_i64 : Flat Tryz.prog 2 [.int .i64]:=.int (by kernel_rfl)
theorem gl_int : Flat Tryz.prog 3 [.int .i64]:=.int (by kernel_rfl)
theorem gl_u64 : Flat Tryz.prog 50 [.int .u64]:=.int (by kernel_rfl)
theorem gl_str : Flat Tryz.prog 9 [.str]:=.str (by kernel_rfl)
theorem gl_bool : Flat Tryz.prog 4 [.bool]:=.bool (by kernel_rfl)
def valLf : List Lf:=[.int .u8,.int .i64,.str]
def evLf : List Lf:=[.int .i64,.int .i64,.int .u8,.int .i64,.int .i64,.int .i64,.int .i64,.bool,.int .u64]
def rlLf : List Lf:=[.int .i64,.int .i64,.int .i64,.int .i64,.int .u8,.int .i64,.int .i64,.int .i64,.int .i64,.int .i64,.int .u64]
theorem gl_val : Flat Tryz.prog 59 valLf :=
  flat_struct [[.int .u8],[.int .i64],[.str]] Tryz.underlying59 ⟨⟨gl_u8,by kernel_rfl⟩,⟨gl_i64,by kernel_rfl⟩,⟨gl_str,by kernel_rfl⟩,trivial⟩ ⟨rfl,rfl,rfl,trivial⟩ (by kernel_rfl)
theorem gl_rect : Flat Tryz.prog 49 [.int .i64,.int .i64,.int .i64,.int .i64] :=
  flat_struct [[.int .i64],[.int .i64],[.int .i64],[.int .i64]] Tryz.underlying49 ⟨⟨gl_int,by kernel_rfl⟩,⟨gl_int,by kernel_rfl⟩,⟨gl_int,by kernel_rfl⟩,⟨gl_int,by kernel_rfl⟩,trivial⟩ ⟨rfl,rfl,rfl,rfl,trivial⟩ (by kernel_rfl)
theorem gl_ref : Flat Tryz.prog 45 [.int .i64,.int .i64] :=
  flat_struct [[.int .i64],[.int .i64]] Tryz.underlying45 ⟨⟨gl_int,by kernel_rfl⟩,⟨gl_int,by kernel_rfl⟩,trivial⟩ ⟨rfl,rfl,trivial⟩ (by kernel_rfl)
theorem gl_call : Flat Tryz.prog 74 [.int .i64,.int .i64,.int .i64] :=
  flat_struct [[.int .i64,.int .i64],[.int .i64]] Tryz.underlying74 ⟨⟨gl_ref,by kernel_rfl⟩,⟨gl_int,by kernel_rfl⟩,trivial⟩ ⟨rfl,rfl,trivial⟩ (by kernel_rfl)
set_option maxRecDepth 100000 in
theorem gl_ev : Flat Tryz.prog 71 evLf :=
  flat_struct [[.int .i64],[.int .i64],[.int .u8],[.int .i64,.int .i64,.int .i64,.int .i64],[.bool],[.int .u64]] Tryz.underlying71 ⟨⟨gl_int,by kernel_rfl⟩,⟨gl_int,by kernel_rfl⟩,⟨gl_u8,by kernel_rfl⟩,⟨gl_rect,by kernel_rfl⟩,⟨gl_bool,by kernel_rfl⟩,⟨gl_u64,by kernel_rfl⟩,trivial⟩ ⟨rfl,rfl,rfl,rfl,rfl,rfl,trivial⟩ (by kernel_rfl)
set_option maxRecDepth 100000 in
theorem gl_rl : Flat Tryz.prog 76 rlLf :=
  flat_struct [[.int .i64],[.int .i64,.int .i64,.int .i64],[.int .u8],[.int .i64,.int .i64,.int .i64,.int .i64],[.int .i64],[.int .u64]] Tryz.underlying76 ⟨⟨gl_int,by kernel_rfl⟩,⟨gl_call,by kernel_rfl⟩,⟨gl_u8,by kernel_rfl⟩,⟨gl_rect,by kernel_rfl⟩,⟨gl_int,by kernel_rfl⟩,⟨gl_u64,by kernel_rfl⟩,trivial⟩ ⟨rfl,rfl,rfl,rfl,rfl,rfl,trivial⟩ (by kernel_rfl)
theorem l_three {α : Type} {l : List α} (h : l.length = 3) : ∃ v0 v1 v2,l = [v0,v1,v2]:=by
  match l,h with
  | [v0,v1,v2],_ => exact ⟨v0,v1,v2,rfl⟩
theorem l_seven {α : Type} {l : List α} (h : l.length = 7) : ∃ v0 v1 v2 v3 v4 v5 v6,l = [v0,v1,v2,v3,v4,v5,v6]:=by
  match l,h with
  | [v0,v1,v2,v3,v4,v5,v6],_ => exact ⟨v0,v1,v2,v3,v4,v5,v6,rfl⟩
theorem l_nine {α : Type} {l : List α} (h : l.length = 9) : ∃ v0 v1 v2 v3 v4 v5 v6 v7 v8,l = [v0,v1,v2,v3,v4,v5,v6,v7,v8]:=by
  match l,h with
  | [v0,v1,v2,v3,v4,v5,v6,v7,v8],_ => exact ⟨v0,v1,v2,v3,v4,v5,v6,v7,v8,rfl⟩
theorem l_eleven {α : Type} {l : List α} (h : l.length = 11) : ∃ v0 v1 v2 v3 v4 v5 v6 v7 v8 v9 v10,l = [v0,v1,v2,v3,v4,v5,v6,v7,v8,v9,v10]:=by
  match l,h with
  | [v0,v1,v2,v3,v4,v5,v6,v7,v8,v9,v10],_ => exact ⟨v0,v1,v2,v3,v4,v5,v6,v7,v8,v9,v10,rfl⟩
theorem row_vl (r : List Value) (h : OkL valLf r) : ∃ a : VlL,vlRow a = r ∧ (-9223372036854775808 ≤ a.2.1 ∧ a.2.1 ≤ 9223372036854775807):=by
  obtain ⟨v0,v1,v2,rfl⟩:=l_three (show r.length = 3 from h.len)
  obtain ⟨⟨n0,rfl,w0⟩,⟨n1,rfl,w1⟩,⟨s,rfl,-⟩,-⟩:=h
  have h0:=wq_u8 w0
  refine ⟨(n0.toNat,n1,s.data.toList),?_,wq_i64 w1⟩
  unfold vlRow
  simp only [Int.toNat_of_nonneg h0.1]
theorem row_ev (r : List Value) (h : OkL evLf r) : ∃ a : EvD,evRow a = r ∧ a.Ok:=by
  obtain ⟨v0,v1,v2,v3,v4,v5,v6,v7,v8,rfl⟩:=l_nine (show r.length = 9 from h.len)
  obtain ⟨⟨n0,rfl,w0⟩,⟨n1,rfl,w1⟩,⟨n2,rfl,w2⟩,⟨n3,rfl,w3⟩,⟨n4,rfl,w4⟩,⟨n5,rfl,w5⟩,⟨n6,rfl,w6⟩,⟨b7,rfl⟩,⟨n8,rfl,w8⟩,-⟩:=h
  have h2:=wq_u8 w2
  have h8:=wq_u64 w8
  refine ⟨⟨n0,n1,n2.toNat,⟨n3,n4,n5,n6⟩,b7,n8.toNat⟩,?_,⟨wq_i64 w0,wq_i64 w1,by show n2.toNat < 256; omega,wq_i64 w3,wq_i64 w4,wq_i64 w5,wq_i64 w6,by show n8.toNat < 18446744073709551616; omega⟩⟩
  unfold evRow
  simp only [Int.toNat_of_nonneg h2.1,Int.toNat_of_nonneg h8.1]
theorem row_rl (r : List Value) (h : OkL rlLf r) : ∃ a : RlD,rlRow a = r ∧ a.Ok:=by
  obtain ⟨v0,v1,v2,v3,v4,v5,v6,v7,v8,v9,v10,rfl⟩:=l_eleven (show r.length = 11 from h.len)
  obtain ⟨⟨n0,rfl,w0⟩,⟨n1,rfl,w1⟩,⟨n2,rfl,w2⟩,⟨n3,rfl,w3⟩,⟨n4,rfl,w4⟩,⟨n5,rfl,w5⟩,⟨n6,rfl,w6⟩,⟨n7,rfl,w7⟩,⟨n8,rfl,w8⟩,⟨n9,rfl,w9⟩,⟨n10,rfl,w10⟩,-⟩:=h
  have h4:=wq_u8 w4
  have h10:=wq_u64 w10
  refine ⟨⟨n0,n1,n2,n3,n4.toNat,⟨n5,n6,n7,n8⟩,n9,n10.toNat⟩,?_,⟨wq_i64 w0,wq_i64 w1,wq_i64 w2,wq_i64 w3,by show n4.toNat < 256; omega,wq_i64 w5,wq_i64 w6,wq_i64 w7,wq_i64 w8,wq_i64 w9,by show n10.toNat < 18446744073709551616; omega⟩⟩
  unfold rlRow
  simp only [Int.toNat_of_nonneg h4.1,Int.toNat_of_nonneg h10.1]
theorem rows_map {α : Type} {f : α → List Value} {ok : α → Prop} {ls : List Lf} (hr : ∀ r,OkL ls r → ∃ a,f a = r ∧ ok a) : ∀ l : List (List Value),(∀ r ∈ l,OkL ls r) → ∃ t : List α,t.map f = l ∧ ∀ a ∈ t,ok a:=by
  intro l
  induction l with
  | nil => intro _; exact ⟨[],rfl,fun a ha => (by cases ha)⟩
  | cons r l ih =>
    intro hl
    obtain ⟨a,ha,hin⟩:=hr r (hl r (by simp))
    obtain ⟨t,ht,hti⟩:=ih fun r hr => hl r (by simp [hr])
    refine ⟨a :: t,by rw [List.map_cons,ha,ht],fun b hb => ?_⟩
    rcases List.mem_cons.1 hb with rfl | hb
    · exact hin
    · exact hti b hb
theorem slice_given {H : Type} {enc : TypeId × Value → H} {w : World} {base : Nat} {spare : Nat → Bool} {held : Bool} {fuel : Nat} {t e : TypeId} {ls : List Lf} {α : Type} {f : α → List Value} {ok : α → Prop} (ht : Tryz.prog.underlying t = some (.slice e)) (he : Flat Tryz.prog e ls) (hc : Tryz.prog.cellsOf e = ls.length) (hpos : 0 < ls.length) (hr : ∀ r,OkL ls r → ∃ a,f a = r ∧ ok a) {v : Value} {x : DataW H × List MemPlace}
    (h : DataW.trod enc Tryz.prog w base spare held fuel t [v] = some x) : ∃ (A : Option Addr) (l : List α) (c : Nat),v = .slice A l.length c ∧ RowsAt w A ls.length (l.map f) ∧ (∀ a ∈ l,ok a) ∧ l.length ≤ maxLen:=by
  have hv : ∃ A n c,v = .slice A n c:=by
    rcases Go.Deep.open_slice ht h with ⟨hcs,-⟩ | ⟨a,len,cap,m,k,D,Pl,hcs,-⟩
    · simp at hcs; exact ⟨_,_,_,hcs⟩
    · simp at hcs; exact ⟨_,_,_,hcs⟩
  obtain ⟨A,n,c,rfl⟩:=hv
  obtain ⟨rows,hl,hrw,hok,h1,h2⟩:=rows_given (A:=A) (n:=n) (c:=c) ht he hc hpos h
  obtain ⟨l,hm,hlo⟩:=rows_map hr rows hok
  have hn : l.length = n:=by rw [← hl,← hm,List.length_map]
  exact ⟨A,l,c,by rw [hn],by rw [hm]; exact hrw,hlo,by rw [hn]; exact Nat.le_trans h1 h2⟩
set_option maxRecDepth 100000 in
theorem reply_given {H : Type} {enc : TypeId × Value → H} {w : World} {base : Nat} {spare : Nat → Bool} {held : Bool} {r : Reach} {b0 : Nat} {v : Value} {d : DataW H} {p : List MemPlace}
    (hv : Value.okWide Tryz.prog w r b0 26 v) (h : DataW.Trod enc Tryz.prog w base spare held 26 v d p) :
    ∃ (c : Nat) (at_ : Int) (g : List VlL) (TX : ByteArray) (e : List EvD) (rl : List RlD) (ct : Int) (ga ea ra : Option Addr) (gc ec rc : Nat),v = .agg #[.int .u8 (c : Nat),.int .i64 at_,.slice ga g.length gc,.string TX,.slice ea e.length ec,.slice ra rl.length rc,.int .i64 ct] ∧ RpIn ⟨c,at_,g,TX.data.toList,e,rl,ct⟩ ∧ RowsAt w ga 3 (g.map vlRow) ∧ RowsAt w ea 9 (e.map evRow) ∧ RowsAt w ra 11 (rl.map rlRow):=by
  obtain ⟨cs,rfl,hsz⟩:=okWide_struct Tryz.underlying26 hv
  have hc7 : Tryz.prog.cellsOf 26 = 7:=by kernel_rfl
  obtain ⟨l⟩:=cs
  obtain ⟨v0,v1,v2,v3,v4,v5,v6,rfl⟩:=l_seven (l:=l) (hsz.trans hc7)
  obtain ⟨fuel,ht⟩:=h
  obtain ⟨ys,k,-,-,-,hyl,hf⟩:=DataW.trod_struct Tryz.underlying26 ht
  have hyl : ys.length = 7:=hyl
  have hy : ∀ j,j < 7 → ∃ y,ys[j]? = some y:=fun j hj => ⟨_,List.getElem?_eq_getElem (by omega)⟩
  obtain ⟨y0,e0⟩:=hy 0 (by decide)
  have f0 : DataW.trod enc Tryz.prog w base spare held k 5 (([v0,v1,v2,v3,v4,v5,v6].drop 0).take (Tryz.prog.cellsOf 5)) = ys[0]?:=hf 0 _ rfl
  rw [show Tryz.prog.cellsOf 5 = 1 by kernel_rfl,e0] at f0
  obtain ⟨y1,e1⟩:=hy 1 (by decide)
  have f1 : DataW.trod enc Tryz.prog w base spare held k 3 (([v0,v1,v2,v3,v4,v5,v6].drop 1).take (Tryz.prog.cellsOf 3)) = ys[1]?:=hf 1 _ rfl
  rw [show Tryz.prog.cellsOf 3 = 1 by kernel_rfl,e1] at f1
  obtain ⟨y2,e2⟩:=hy 2 (by decide)
  have f2 : DataW.trod enc Tryz.prog w base spare held k 22 (([v0,v1,v2,v3,v4,v5,v6].drop 2).take (Tryz.prog.cellsOf 22)) = ys[2]?:=hf 2 _ rfl
  rw [show Tryz.prog.cellsOf 22 = 1 by kernel_rfl,e2] at f2
  obtain ⟨y3,e3⟩:=hy 3 (by decide)
  have f3 : DataW.trod enc Tryz.prog w base spare held k 9 (([v0,v1,v2,v3,v4,v5,v6].drop 3).take (Tryz.prog.cellsOf 9)) = ys[3]?:=hf 3 _ rfl
  rw [show Tryz.prog.cellsOf 9 = 1 by kernel_rfl,e3] at f3
  obtain ⟨y4,e4⟩:=hy 4 (by decide)
  have f4 : DataW.trod enc Tryz.prog w base spare held k 23 (([v0,v1,v2,v3,v4,v5,v6].drop 4).take (Tryz.prog.cellsOf 23)) = ys[4]?:=hf 4 _ rfl
  rw [show Tryz.prog.cellsOf 23 = 1 by kernel_rfl,e4] at f4
  obtain ⟨y5,e5⟩:=hy 5 (by decide)
  have f5 : DataW.trod enc Tryz.prog w base spare held k 24 (([v0,v1,v2,v3,v4,v5,v6].drop 5).take (Tryz.prog.cellsOf 24)) = ys[5]?:=hf 5 _ rfl
  rw [show Tryz.prog.cellsOf 24 = 1 by kernel_rfl,e5] at f5
  obtain ⟨y6,e6⟩:=hy 6 (by decide)
  have f6 : DataW.trod enc Tryz.prog w base spare held k 3 (([v0,v1,v2,v3,v4,v5,v6].drop 6).take (Tryz.prog.cellsOf 3)) = ys[6]?:=hf 6 _ rfl
  rw [show Tryz.prog.cellsOf 3 = 1 by kernel_rfl,e6] at f6
  obtain ⟨n0,g0,-,w0⟩:=DataW.trod_int Tryz.underlying5 f0
  obtain ⟨n1,g1,-,w1⟩:=DataW.trod_int Tryz.underlying3 f1
  obtain ⟨s3,g3,-,w3⟩:=DataW.trod_string Tryz.underlying9 f3
  obtain ⟨n6,g6,-,w6⟩:=DataW.trod_int Tryz.underlying3 f6
  obtain ⟨ga,g,gc,g2,hg1,hg2,hg3⟩:=slice_given (t:=22) (e:=59) (by kernel_rfl) gl_val (by kernel_rfl) (by decide) row_vl (v:=v2) f2
  obtain ⟨ea,e,ec,g4,he1,he2,he3⟩:=slice_given (t:=23) (e:=71) (by kernel_rfl) gl_ev (by kernel_rfl) (by decide) row_ev (v:=v4) f4
  obtain ⟨ra,rl,rc,g5,hr1,hr2,hr3⟩:=slice_given (t:=24) (e:=76) (by kernel_rfl) gl_rl (by kernel_rfl) (by decide) row_rl (v:=v5) f5
  simp at g0 g1 g3 g6
  subst g0 g1 g2 g3 g4 g5 g6
  have b0:=wq_u8 w0
  have hml : maxLen ≤ 9223372036854775807:=by decide
  refine ⟨n0.toNat,n1,g,s3,e,rl,n6,ga,ea,ra,gc,ec,rc,?_,⟨?_,wq_i64 w1,wq_i64 w6,hg2,he2,hr2,Nat.le_trans hg3 hml⟩,hg1,he1,hr1⟩
  · rw [Int.toNat_of_nonneg b0.1]
  · show n0.toNat < 256
    omega
theorem lenv_of {W : World} {l : List (String × DataW Unit)} (h : laidMetH Tryz.prog l W) (hS : W.ShapedOpen Tryz.prog)
    (hp : l.filter (fun x => x.1 == "internal/strconv.uint64pow10") = [("internal/strconv.uint64pow10", Rows.laid_internal_strconv_uint64pow10)])
    (hl : l.filter (fun x => x.1 == "math/bits.deBruijn64tab") = [("math/bits.deBruijn64tab", Rows.laid_math_bits_deBruijn64tab)])
    (hs : l.filter (fun x => x.1 == "strconv.ErrSyntax") = [("strconv.ErrSyntax", Rows.laid_strconv_ErrSyntax)])
    (hr : l.filter (fun x => x.1 == "strconv.ErrRange") = [("strconv.ErrRange", Rows.laid_strconv_ErrRange)])
    (hw : l.filter (fun x => x.1 == "louvre/val.words") = [("louvre/val.words", Rows.laid_louvre_val_words)]) : LEnv W := ⟨⟨pow_of_laid h hp, env_of h hS hl hs hr⟩, words_of h hw hS⟩
end Go.Proofs.YtmalncmdfmoccaaGreatDoor
