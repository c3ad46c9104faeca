/- The reference's parser by rf: primary whole, all methods by induction on the fuel. -/
import Derived.Test.YtlngjiibbcgkmaaGreatDoorRqE
import Derived.Test.YtlngjiibbcgkmaaGreatDoorRqG
namespace Go.Proofs.YtlngjiibbcgkmaaGreatDoor
open Go.RowKit
set_option maxRecDepth 100000 in
set_option maxHeartbeats 4000000 in
theorem r_primary_name (f : Nat) (IH : ∀ g,g ≤ f → Rc g) (tk : Nat) (tn : Int) (tt : List UInt8) (t1 t2 t3 t4 : Int) (ta : Nat) (w1 : World) (ps : List Pers) (pb : Nat) (S : ByteArray) (all : List Tk) (i : Nat) (ns : List Nd) (a c : Int) (n : Nat) (w : World) (hn : all.length ≤ 1000) (hs : S.size ≤ 4611686018427387904) (_hi : i ≤ all.length) (hl : ns.length ≤ i) (hf : 12 * (all.length - i) + 2 ≤ f + 1) (h : RSt w1 ps pb S all i ns a c w) (ht : hdS S.size (all.drop i) = ⟨tk,tn,tt,⟨t1,t2,t3,t4⟩,ta⟩) (hk : tk = 7) :
  Calls Tryz.prog 135 #[.pointer (some ⟨pb,0,none⟩)] w (RQ w1 ps pb S all (rf S.size all (f + 1) .pr ⟨i,ns,a,c,n⟩)):=by
 have hT0:=ht
 obtain ⟨i0,hi_,hz0,hz1,hz2⟩:=info_parts info_node
 have hi9:=hi_
 clear hi_
 rw [rf_pr1 ht]
 simp only []
 rw [if_neg (by omega),if_neg (by omega),if_neg (by omega),if_pos hk]
 have hlt : i < all.length:=hd_lt (e:=S.size) (q:=⟨i,ns,a,c,n⟩) (by show (hdS S.size (all.drop i)).kind ≠ 0; rw [hT0]; simp only; omega)
 have hb2:=rf_num (e:=S.size) (all:=all) (f:=f) (m:=(.call ⟨tk,tn,tt,⟨t1,t2,t3,t4⟩,ta⟩)) (q:=⟨i + 1,ns,a,c,n⟩) hn (hlt) (by simp only [Mr.sl]; omega)
 have hc2:=fun qs W (h9 : RSt w1 qs pb S all (i + 1) (ns) (a) (c) W) => IH (f) (Nat.le_refl _) w1 qs pb S all ⟨i + 1,ns,a,c,n⟩ (.call ⟨tk,tn,tt,⟨t1,t2,t3,t4⟩,ta⟩) W hn hs (hlt) (by simp only [Mr.sl]; omega) (by simp only [needR]; omega) h9
 obtain ⟨⟨i2,ns2,a2,c2,n2⟩,hX2⟩ : ∃ q,rf S.size all f (.call ⟨tk,tn,tt,⟨t1,t2,t3,t4⟩,ta⟩) ⟨i + 1,ns,a,c,n⟩ = q:=⟨_,rfl⟩
 rw [hX2] at hb2 hc2
 simp only [Mr.sl] at hb2
 obtain ⟨hb2a,hb2b,hb2c,hb2d⟩:=hb2
 have HC2:=keep hc2
 clear hc2
 rw [hX2]
 clear hX2
 have HH:=keep (r_next w1 ps pb S all i ns a c w hn (by omega) hs h)
 rw [ht] at HH
 have H:=Lib.hid h
 have HK:=keep hk
 clear hk h ht hT0 IH
 go_enter Tryz.func135,Tryz.ntmps135
 go_wp2_with fail
 refine (HH.out).mono ?_
 rintro e wa1 ⟨rfl,hb2⟩
 have H3:=Lib.hid (H.out.below hb2)
 clear hb2 H HH
 simp only [tkA]
 go_upto_region 1 with fail
 have H4 : Hid (RSt w1 (kBlk wa1.heap.size 43 [.int .u8 tk,.int .i64 tn,.string ⟨tt.toArray⟩,.int .i64 t1,.int .i64 t2,.int .i64 t3,.int .i64 t4,.int .i64 ta] :: ps) pb S all i ns a c (wa1.alloc (.cells #[.int .u8 tk,.int .i64 tn,.string ⟨tt.toArray⟩,.int .i64 t1,.int .i64 t2,.int .i64 t3,.int .i64 t4,.int .i64 ta] 43))):=Lib.hid (H3.out.alloc 43 [.int .u8 tk,.int .i64 tn,.string ⟨tt.toArray⟩,.int .i64 t1,.int .i64 t2,.int .i64 t3,.int .i64 t4,.int .i64 ta])
 clear H3
 generalize (wa1.alloc (.cells #[.int .u8 tk,.int .i64 tn,.string ⟨tt.toArray⟩,.int .i64 t1,.int .i64 t2,.int .i64 t3,.int .i64 t4,.int .i64 ta] 43)) = W5 at H4 ⊢
 have hk:=HK.out
 have F6:=H4.out.sees
 simp only [sees,kBlk,cellsAt,Nat.reduceAdd] at F6
 obtain ⟨zp,⟨z0,c0_0,c0_1,c0_2,c0_3,c0_4,c0_5,c0_6,c0_7,-⟩,-⟩:=F6
 obtain ⟨la,lc,tv,-,⟨x0,x1⟩,p0,p1,p2,p3,p4,p5⟩:=H4.out.cells
 go_upto_region 18 with fail
 have HI:=Lib.hid H4.out.inc
 clear H4 x0 x1 p0 p1 p2 p3 p4 p5 c0_0 c0_1 c0_2 c0_3 c0_4 c0_5 c0_6 c0_7 zp z0
 generalize (W5.setCell ⟨pb,2,none⟩ (.int .i64 ((i : Int) + 1))) = W6 at HI ⊢
 have F6:=HI.out.sees
 simp only [sees,kBlk,cellsAt,Nat.reduceAdd] at F6
 obtain ⟨zp,⟨z0,c0_0,c0_1,c0_2,c0_3,c0_4,c0_5,c0_6,c0_7,-⟩,-⟩:=F6
 go_wp2_with fail
 have HC7:=HC2.out
 rw [hk] at HC7
 refine (HC7 _ _ HI.out).mono ?_
 clear HC7
 rintro e w6 ⟨rfl,hst⟩
 have hst : RSt w1 _ pb S all i2 ns2 a2 c2 w6:=hst
 have HST:=Lib.hid hst
 clear hst HC2 HI c0_0 c0_1 c0_2 c0_3 c0_4 c0_5 c0_6 c0_7 zp z0
 go_wp2_with fail
 first
  | go_end0
  | go_ret
  | refine bodyPost_ret (results_none rfl _ _ _) rfl ?_
 exact ⟨rfl,HST.out.tail⟩
set_option maxRecDepth 100000 in
set_option maxHeartbeats 4000000 in
theorem r_primary (f : Nat) (IH : ∀ g,g ≤ f → Rc g) (w1 : World) (ps : List Pers) (pb : Nat) (S : ByteArray) (all : List Tk) (i : Nat) (ns : List Nd) (a c : Int) (n : Nat) (w : World) (hn : all.length ≤ 1000) (hs : S.size ≤ 4611686018427387904) (hi : i ≤ all.length) (hl : ns.length ≤ i) (hf : 12 * (all.length - i) + 2 ≤ f + 1) (h : RSt w1 ps pb S all i ns a c w) :
  Calls Tryz.prog 135 #[.pointer (some ⟨pb,0,none⟩)] w (RQ w1 ps pb S all (rf S.size all (f + 1) .pr ⟨i,ns,a,c,n⟩)):=by
 obtain ⟨⟨tk,tn,tt,⟨t1,t2,t3,t4⟩,ta⟩,ht⟩ : ∃ t,hdS S.size (all.drop i) = t:=⟨_,rfl⟩
 by_cases k1 : tk = 1
 ·exact r_primary_num f IH tk tn tt t1 t2 t3 t4 ta w1 ps pb S all i ns a c n w hn hs hi hl hf h ht k1
 by_cases k2 : tk = 2
 ·exact r_primary_txt f IH tk tn tt t1 t2 t3 t4 ta w1 ps pb S all i ns a c n w hn hs hi hl hf h ht k2
 by_cases k3 : tk = 3
 ·exact r_primary_bool f IH tk tn tt t1 t2 t3 t4 ta w1 ps pb S all i ns a c n w hn hs hi hl hf h ht k3
 by_cases k4 : tk = 4
 ·exact r_primary_err f IH tk tn tt t1 t2 t3 t4 ta w1 ps pb S all i ns a c n w hn hs hi hl hf h ht k4
 by_cases k5 : tk = 5
 ·exact r_primary_ref f IH tk tn tt t1 t2 t3 t4 ta w1 ps pb S all i ns a c n w hn hs hi hl hf h ht k5
 by_cases k9 : tk = 9
 ·exact r_primary_par f IH tk tn tt t1 t2 t3 t4 ta w1 ps pb S all i ns a c n w hn hs hi hl hf h ht k9
 by_cases k7 : tk = 7
 ·exact r_primary_name f IH tk tn tt t1 t2 t3 t4 ta w1 ps pb S all i ns a c n w hn hs hi hl hf h ht k7
 exact r_primary_else f IH tk tn tt t1 t2 t3 t4 ta w1 ps pb S all i ns a c n w hn hs hi hl hf h ht (by omega)
theorem rc_all : ∀ N f : Nat,f ≤ N → Rc f:=by
 intro N
 induction N with
 | zero =>
  intro f hf w1 ps pb S all q m w hn hs hi hl hfu h
  cases m with
  | lv k => intro h1 h2; simp only [needR] at hfu; omega
  | sg => simp only [needR] at hfu; omega
  | pc => simp only [needR] at hfu; omega
  | pr => simp only [needR] at hfu; omega
  | arg fn i => simp only [needR] at hfu; omega
  | call t => simp only [needR] at hfu; omega
  | ops k => trivial
  | pct => trivial
  | args fn i => trivial
 | succ N ih =>
  intro f hf
  cases f with
  | zero => exact ih 0 (Nat.zero_le _)
  | succ f =>
   have IH : ∀ g,g ≤ f → Rc g:=fun g hg => ih g (by omega)
   intro w1 ps pb S all q m w hn hs hi hl hfu h
   obtain ⟨i,ns,a,c,n⟩:=q
   cases m with
   | lv k => exact fun h1 h2 => r_level f IH k h1 h2 w1 ps pb S all i ns a c n w hn hs hi hl hfu h
   | sg => exact r_sign f IH w1 ps pb S all i ns a c n w hn hs hi hl hfu h
   | pc => exact r_percent f IH w1 ps pb S all i ns a c n w hn hs hi hl hfu h
   | pr => exact r_primary f IH w1 ps pb S all i ns a c n w hn hs hi hl hfu h
   | arg fn j => exact fun h1 h2 h3 => r_argument f IH fn j h1 h2 h3 w1 ps pb S all i ns a c n w hn hs hi hl hfu h
   | call t =>
    obtain ⟨tk,tn,tt,⟨t1,t2,t3,t4⟩,ta⟩:=t
    exact r_call f IH tk tn tt t1 t2 t3 t4 ta w1 ps pb S all i ns a c n w hn hs hi hl hfu h
   | ops k => trivial
   | pct => trivial
   | args fn i => trivial
end Go.Proofs.YtlngjiibbcgkmaaGreatDoor
