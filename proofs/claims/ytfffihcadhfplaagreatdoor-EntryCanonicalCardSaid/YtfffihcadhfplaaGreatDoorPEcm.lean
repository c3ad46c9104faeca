/- louvrekit.EqualMeaning; rows of cells as a fact that outlives calls. known of chapter 11. Plain: the canonical input means the same, is not longer, and is its own canonical input. No program stands here. -/
import Derived.Test.YtfffihcadhfplaaGreatDoorPEnf
import Derived.Test.YtfffihcadhfplaaGreatDoorPEcl
namespace Go.Proofs.YtfffihcadhfplaaGreatDoor
set_option maxRecDepth 100000
set_option maxHeartbeats 8000000
open Go.RowKit
attribute [local go_sem high] eq_val
def kRowsE (a:Option Addr) (s:Nat) (l:List (List Value)):Pers where
 p w:=RowsAt w a s l
 s _:=True
 far row:=l≠[]→∀ b o,a=some ⟨b,o,none⟩→some b≠row
 st w w' row hr hb h:=by
  intro hl
  obtain ⟨b,o,e,h1,h2⟩:=h hl
  exact ⟨b,o,e,Nat.lt_of_lt_of_le h1 hb.size,fun i r hi j v hj=>(World.cell?_of_block (hb.block b h1 (hr hl b o e))).trans (h2 i r hi j v hj)⟩
 vis _ _:=trivial
 none_:=by simp
 new w k hk h:=by
  intro hl b o e
  obtain ⟨b',o',e',h1,-⟩:=h hl
  rw [e] at e'
  cases e'
  simp
  omega
theorem of_rows {s:ByteArray} {f:Bool} {a:Nat} {n1:Int} {t1:List UInt8} {t:List Nd} {at_ er:Int} (h:meanS s.data.toList=(⟨f,(a,n1,t1),t⟩,at_,er)) (W:World) (hW:Words W) :
  Calls Tryz.prog 11 #[.string s] W fun e w'=>∃ ta tc,e=.returned (.tuple #[.agg #[.bool f,.int .u8 (a:Nat),.int .i64 n1,.string ⟨t1.toArray⟩,.slice ta t.length tc],.int .i64 at_,.int .i64 er])∧RowsAt w' ta 11 ((t.map Nd.any).map aRow)∧Below W.heap.size W w':=by
 have hof:=entry_Of s W hW
 unfold OfOut at hof
 rw [h] at hof
 refine hof.mono ?_
 rintro e w' ⟨tv,rfl,g1,g2⟩
 obtain ⟨ta,tc,rfl,g3⟩:=nds_own g1
 exact ⟨ta,tc,rfl,g3,g2⟩
open Classical in
noncomputable def eqM (m o:Mn):Bool:=decide (m=o)
open Classical in
theorem eqM_yes (m:Mn):eqM m m=true:=decide_eq_true rfl
open Classical in
theorem eqM_iff (m o:Mn):eqM m o=true↔m=o:=decide_eq_true_iff
open Classical in
theorem eqM_of {f g:Bool} {a b:Nat} {n1 n2:Int} {t1 t2:List UInt8} {t u:List Nd}:eqM ⟨f,(a,n1,t1),t⟩ ⟨g,(b,n2,t2),u⟩=((f == g) && (eq3 (a:Nat) n1 (b:Nat) n2 t1 t2 && eqA (t.map Nd.any) (u.map Nd.any))):=by
 rw [Bool.eq_iff_iff,Bool.and_eq_true,Bool.and_eq_true,eq3_iff,eqA_iff,beq_iff_eq]
 unfold eqM
 rw [decide_eq_true_eq]
 constructor
 ·intro h
  cases h
  exact ⟨rfl,⟨rfl,rfl,rfl⟩,rfl⟩
 ·rintro ⟨rfl,⟨h1,rfl,rfl⟩,h2⟩
  have h1:a=b:=by omega
  subst h1
  have h3:=congrArg (List.map NdA.nd) h2
  rw [map_any,map_any] at h3
  rw [h3]
theorem equal_mean (f g:Bool) (a b:Nat) (n1 n2:Int) (t1 t2:List UInt8) (t u:List Nd) (ta tb:Option Addr) (tc td:Nat) (w:World) (hl:t.length≤1000) (hm:u.length≤1000) (ht:RowsAt w ta 11 ((t.map Nd.any).map aRow)) (hu:RowsAt w tb 11 ((u.map Nd.any).map aRow)) :
  Calls Tryz.prog 13 #[.agg #[.bool f,.int .u8 (a:Nat),.int .i64 n1,.string ⟨t1.toArray⟩,.slice ta t.length tc],.agg #[.bool g,.int .u8 (b:Nat),.int .i64 n2,.string ⟨t2.toArray⟩,.slice tb u.length td]] w fun e w'=>e=.returned (.bool (eqM ⟨f,(a,n1,t1),t⟩ ⟨g,(b,n2,t2),u⟩))∧Below w.heap.size w w':=by
 rw [eqM_of]
 have HQ:=keep (fun W (h:Below w.heap.size w W)=>equal_treeA (t.map Nd.any) (u.map Nd.any) ta tb tc td W (by rw [List.length_map]; exact hl) (by rw [List.length_map]; exact hm) (ht.below h) (hu.below h))
 rw [List.length_map,List.length_map] at HQ
 obtain ⟨tn,htn⟩:∃ tn,t.length=tn:=⟨_,rfl⟩
 obtain ⟨un,hun⟩:∃ un,u.length=un:=⟨_,rfl⟩
 rw [htn] at HQ ⊢
 rw [hun] at HQ ⊢
 obtain ⟨V,hV⟩:∃ V,eqA (t.map Nd.any) (u.map Nd.any)=V:=⟨_,rfl⟩
 rw [hV] at HQ ⊢
 clear hl hm ht hu htn hun hV
 cases hq:eq3 (a:Nat) n1 (b:Nat) n2 t1 t2
 ·cases f
  ·cases g
   ·have H1:=Lib.hid (((Ok.start w).alloc w.heap.size 31 [.bool false,.int .u8 (a:Nat),.int .i64 n1,.string ⟨t1.toArray⟩,.slice ta tn tc] rfl).alloc (w.heap.size+1) 31 [.bool false,.int .u8 (b:Nat),.int .i64 n2,.string ⟨t2.toArray⟩,.slice tb un td] (by simp))
    go_enter Tryz.func13,Tryz.ntmps13
    go_upto_region 1 with fail
    generalize ((w.alloc (.cells #[.bool false,.int .u8 (a:Nat),.int .i64 n1,.string ⟨t1.toArray⟩,.slice ta tn tc] 31)).alloc (.cells #[.bool false,.int .u8 (b:Nat),.int .i64 n2,.string ⟨t2.toArray⟩,.slice tb un td] 31))=W2 at H1 ⊢
    have F3:=H1.out.sees
    simp only [sees,kBlk,cellsAt,Nat.reduceAdd] at F3
    obtain ⟨⟨z0,c00,c01,c02,c03,c04,-⟩,⟨z1,c10,c11,c12,c13,c14,-⟩,-⟩:=F3
    go_wp2_with fail
    go_ret
    exact ⟨rfl,H1.out.bel⟩
   ·have H1:=Lib.hid (((Ok.start w).alloc w.heap.size 31 [.bool false,.int .u8 (a:Nat),.int .i64 n1,.string ⟨t1.toArray⟩,.slice ta tn tc] rfl).alloc (w.heap.size+1) 31 [.bool true,.int .u8 (b:Nat),.int .i64 n2,.string ⟨t2.toArray⟩,.slice tb un td] (by simp))
    go_enter Tryz.func13,Tryz.ntmps13
    go_upto_region 1 with fail
    generalize ((w.alloc (.cells #[.bool false,.int .u8 (a:Nat),.int .i64 n1,.string ⟨t1.toArray⟩,.slice ta tn tc] 31)).alloc (.cells #[.bool true,.int .u8 (b:Nat),.int .i64 n2,.string ⟨t2.toArray⟩,.slice tb un td] 31))=W2 at H1 ⊢
    have F3:=H1.out.sees
    simp only [sees,kBlk,cellsAt,Nat.reduceAdd] at F3
    obtain ⟨⟨z0,c00,c01,c02,c03,c04,-⟩,⟨z1,c10,c11,c12,c13,c14,-⟩,-⟩:=F3
    go_wp2_with fail
    go_ret
    exact ⟨rfl,H1.out.bel⟩
  ·cases g
   ·have H1:=Lib.hid (((Ok.start w).alloc w.heap.size 31 [.bool true,.int .u8 (a:Nat),.int .i64 n1,.string ⟨t1.toArray⟩,.slice ta tn tc] rfl).alloc (w.heap.size+1) 31 [.bool false,.int .u8 (b:Nat),.int .i64 n2,.string ⟨t2.toArray⟩,.slice tb un td] (by simp))
    go_enter Tryz.func13,Tryz.ntmps13
    go_upto_region 1 with fail
    generalize ((w.alloc (.cells #[.bool true,.int .u8 (a:Nat),.int .i64 n1,.string ⟨t1.toArray⟩,.slice ta tn tc] 31)).alloc (.cells #[.bool false,.int .u8 (b:Nat),.int .i64 n2,.string ⟨t2.toArray⟩,.slice tb un td] 31))=W2 at H1 ⊢
    have F3:=H1.out.sees
    simp only [sees,kBlk,cellsAt,Nat.reduceAdd] at F3
    obtain ⟨⟨z0,c00,c01,c02,c03,c04,-⟩,⟨z1,c10,c11,c12,c13,c14,-⟩,-⟩:=F3
    go_wp2_with fail
    go_ret
    exact ⟨rfl,H1.out.bel⟩
   ·have H1:=Lib.hid (((Ok.start w).alloc w.heap.size 31 [.bool true,.int .u8 (a:Nat),.int .i64 n1,.string ⟨t1.toArray⟩,.slice ta tn tc] rfl).alloc (w.heap.size+1) 31 [.bool true,.int .u8 (b:Nat),.int .i64 n2,.string ⟨t2.toArray⟩,.slice tb un td] (by simp))
    go_enter Tryz.func13,Tryz.ntmps13
    go_upto_region 1 with fail
    generalize ((w.alloc (.cells #[.bool true,.int .u8 (a:Nat),.int .i64 n1,.string ⟨t1.toArray⟩,.slice ta tn tc] 31)).alloc (.cells #[.bool true,.int .u8 (b:Nat),.int .i64 n2,.string ⟨t2.toArray⟩,.slice tb un td] 31))=W2 at H1 ⊢
    have F3:=H1.out.sees
    simp only [sees,kBlk,cellsAt,Nat.reduceAdd] at F3
    obtain ⟨⟨z0,c00,c01,c02,c03,c04,-⟩,⟨z1,c10,c11,c12,c13,c14,-⟩,-⟩:=F3
    go_wp2_with fail
    go_ret
    exact ⟨rfl,H1.out.bel⟩
 ·cases f
  ·cases g
   ·have H1:=Lib.hid (((Ok.start w).alloc w.heap.size 31 [.bool false,.int .u8 (a:Nat),.int .i64 n1,.string ⟨t1.toArray⟩,.slice ta tn tc] rfl).alloc (w.heap.size+1) 31 [.bool false,.int .u8 (b:Nat),.int .i64 n2,.string ⟨t2.toArray⟩,.slice tb un td] (by simp))
    go_enter Tryz.func13,Tryz.ntmps13
    go_upto_region 1 with fail
    generalize ((w.alloc (.cells #[.bool false,.int .u8 (a:Nat),.int .i64 n1,.string ⟨t1.toArray⟩,.slice ta tn tc] 31)).alloc (.cells #[.bool false,.int .u8 (b:Nat),.int .i64 n2,.string ⟨t2.toArray⟩,.slice tb un td] 31))=W2 at H1 ⊢
    have F3:=H1.out.sees
    simp only [sees,kBlk,cellsAt,Nat.reduceAdd] at F3
    obtain ⟨⟨z0,c00,c01,c02,c03,c04,-⟩,⟨z1,c10,c11,c12,c13,c14,-⟩,-⟩:=F3
    go_wp2_with fail
    refine (HQ.out _ H1.out.bel).mono ?_
    rintro e w4 ⟨rfl,hb5⟩
    clear z0 c00 c01 c02 c03 c04 z1 c10 c11 c12 c13 c14
    have H6:=Lib.hid (H1.out.below hb5)
    clear hb5 H1
    go_wp2_with fail
    go_ret
    exact ⟨rfl,H6.out.bel⟩
   ·have H1:=Lib.hid (((Ok.start w).alloc w.heap.size 31 [.bool false,.int .u8 (a:Nat),.int .i64 n1,.string ⟨t1.toArray⟩,.slice ta tn tc] rfl).alloc (w.heap.size+1) 31 [.bool true,.int .u8 (b:Nat),.int .i64 n2,.string ⟨t2.toArray⟩,.slice tb un td] (by simp))
    go_enter Tryz.func13,Tryz.ntmps13
    go_upto_region 1 with fail
    generalize ((w.alloc (.cells #[.bool false,.int .u8 (a:Nat),.int .i64 n1,.string ⟨t1.toArray⟩,.slice ta tn tc] 31)).alloc (.cells #[.bool true,.int .u8 (b:Nat),.int .i64 n2,.string ⟨t2.toArray⟩,.slice tb un td] 31))=W2 at H1 ⊢
    have F3:=H1.out.sees
    simp only [sees,kBlk,cellsAt,Nat.reduceAdd] at F3
    obtain ⟨⟨z0,c00,c01,c02,c03,c04,-⟩,⟨z1,c10,c11,c12,c13,c14,-⟩,-⟩:=F3
    go_wp2_with fail
    go_ret
    exact ⟨rfl,H1.out.bel⟩
  ·cases g
   ·have H1:=Lib.hid (((Ok.start w).alloc w.heap.size 31 [.bool true,.int .u8 (a:Nat),.int .i64 n1,.string ⟨t1.toArray⟩,.slice ta tn tc] rfl).alloc (w.heap.size+1) 31 [.bool false,.int .u8 (b:Nat),.int .i64 n2,.string ⟨t2.toArray⟩,.slice tb un td] (by simp))
    go_enter Tryz.func13,Tryz.ntmps13
    go_upto_region 1 with fail
    generalize ((w.alloc (.cells #[.bool true,.int .u8 (a:Nat),.int .i64 n1,.string ⟨t1.toArray⟩,.slice ta tn tc] 31)).alloc (.cells #[.bool false,.int .u8 (b:Nat),.int .i64 n2,.string ⟨t2.toArray⟩,.slice tb un td] 31))=W2 at H1 ⊢
    have F3:=H1.out.sees
    simp only [sees,kBlk,cellsAt,Nat.reduceAdd] at F3
    obtain ⟨⟨z0,c00,c01,c02,c03,c04,-⟩,⟨z1,c10,c11,c12,c13,c14,-⟩,-⟩:=F3
    go_wp2_with fail
    go_ret
    exact ⟨rfl,H1.out.bel⟩
   ·have H1:=Lib.hid (((Ok.start w).alloc w.heap.size 31 [.bool true,.int .u8 (a:Nat),.int .i64 n1,.string ⟨t1.toArray⟩,.slice ta tn tc] rfl).alloc (w.heap.size+1) 31 [.bool true,.int .u8 (b:Nat),.int .i64 n2,.string ⟨t2.toArray⟩,.slice tb un td] (by simp))
    go_enter Tryz.func13,Tryz.ntmps13
    go_upto_region 1 with fail
    generalize ((w.alloc (.cells #[.bool true,.int .u8 (a:Nat),.int .i64 n1,.string ⟨t1.toArray⟩,.slice ta tn tc] 31)).alloc (.cells #[.bool true,.int .u8 (b:Nat),.int .i64 n2,.string ⟨t2.toArray⟩,.slice tb un td] 31))=W2 at H1 ⊢
    have F3:=H1.out.sees
    simp only [sees,kBlk,cellsAt,Nat.reduceAdd] at F3
    obtain ⟨⟨z0,c00,c01,c02,c03,c04,-⟩,⟨z1,c10,c11,c12,c13,c14,-⟩,-⟩:=F3
    go_wp2_with fail
    refine (HQ.out _ H1.out.bel).mono ?_
    rintro e w4 ⟨rfl,hb5⟩
    clear z0 c00 c01 c02 c03 c04 z1 c10 c11 c12 c13 c14
    have H6:=Lib.hid (H1.out.below hb5)
    clear hb5 H1
    go_wp2_with fail
    go_ret
    exact ⟨rfl,H6.out.bel⟩
set_option maxRecDepth 100000
set_option maxHeartbeats 8000000
attribute [local go_sem high] eq_val
theorem mean_25:meanS [50,46,53]=(⟨false,(1,25000,[]),[]⟩,0,0):=by
 rw [mean_const (by decide) (by decide) (by decide)]
 rfl
def kwT:List Nd:=[⟨2,0,0,[],⟨1,1,1,1⟩,0,0,0⟩,⟨1,1,10000,[],R4.zero,0,0,0⟩,ndBin 1]
theorem kw_form:formS [97,49,32,43,32,49]=(kwT,0,0):=by kernel_rfl
theorem can_kw:canS [61,97,49,32,43,32,49]=([61,65,49,43,49],0):=by
 have hm:meanS [61,97,49,32,43,32,49]=(⟨true,(0,0,[]),kwT⟩,0,0):=by
  rw [mean_form (by decide) (by decide) rfl (by show (formS [97,49,32,43,32,49]).2.2=0; rw [kw_form])]
  show (_,_,_)=_
  rw [show [61,97,49,32,43,32,49].tail=([97,49,32,43,32,49]:List UInt8) from rfl,kw_form]
 obtain ⟨-,hck,-,-,-,-⟩:=form_good kw_form
 have hs:showT ((kwT.map Nd.any).map NdA.nd)=[65,49,43,49]:=by rw [map_any]; kernel_rfl
 have hf:showF (kwT.map Nd.any)=([65,49,43,49],0):=by rw [showF_ok hck (by rw [hs]; decide),hs]
 rw [can_form hm rfl (by show (showF (kwT.map Nd.any)).2=0; rw [hf])]
 show (61::(showF (kwT.map Nd.any)).1,_)=_
 rw [hf]
theorem law_known11 (w:World) (he:WEnv w) :
  Calls Tryz.prog 8 #[] w fun e w'=>e=.returned (.bool true)∧Below w.heap.size w w':=by
 have HE:=keep he
 have hof:=entry_Of ⟨#[50,46,53]⟩ w he.1
 unfold OfOut at hof
 rw [show (⟨#[50,46,53]⟩:ByteArray).data.toList=[50,46,53] from rfl,mean_25] at hof
 have HOF:=keep (hof.mono (R':=fun e w'=>∃ ta tn tc,e=.returned (.tuple #[.agg #[.bool false,.int .u8 1,.int .i64 25000,.string ⟨#[]⟩,.slice ta tn tc],.int .i64 0,.int .i64 0])∧Below w.heap.size w w') (by
  rintro e w' ⟨tv,rfl,g1,g2⟩
  obtain ⟨ta,tc,rfl⟩:=own_len g1
  exact ⟨ta,_,tc,rfl,g2⟩))
 have HCA:=keep (fun W (h:WEnv W)=>by
  have h9:=entry_Canonical ⟨#[61,97,49,32,43,32,49]⟩ W h
  rw [show (⟨#[61,97,49,32,43,32,49]⟩:ByteArray).data.toList=[61,97,49,32,43,32,49] from rfl,can_kw] at h9
  exact h9)
 clear he hof
 go_enter Tryz.func8,Tryz.ntmps8
 go_wp2_with fail
 refine HOF.out.mono ?_
 rintro e w1 ⟨ta,tn,tc,rfl,hb2⟩
 have H3:=Lib.hid ((Ok.start w).below hb2)
 clear hb2
 go_upto_region 2 with fail
 have H4:=Lib.hid (H3.out.var w1.heap.size 31 [.bool false,.int .u8 1,.int .i64 25000,.string ⟨#[]⟩,.slice ta tn tc] rfl)
 clear H3
 generalize (w1.alloc (.cells #[.bool false,.int .u8 1,.int .i64 25000,.string ⟨#[]⟩,.slice ta tn tc] 31))=W5 at H4 ⊢
 have F6:=H4.out.sees
 simp only [sees,kVar,cellsAt,Nat.reduceAdd] at F6
 obtain ⟨⟨⟨z0,fz0⟩,c00,c01,c02,c03,c04,-⟩,-⟩:=F6
 go_wp2_with fail
 refine (HCA.out _ (HE.out.below H4.out.bel)).mono ?_
 rintro e w7 ⟨rfl,hb8⟩
 clear z0 fz0 c00 c01 c02 c03 c04
 have H9:=Lib.hid (H4.out.below hb8)
 clear hb8 H4
 have F10:=H9.out.sees
 simp only [sees,kVar,cellsAt,Nat.reduceAdd] at F10
 obtain ⟨⟨⟨z0,fz0⟩,c00,c01,c02,c03,c04,-⟩,-⟩:=F10
 go_wp2_with fail
 go_ret
 exact ⟨rfl,H9.out.bel⟩
theorem const_cases (l:List UInt8):(∃ j,j<5∧(tryS j l).2=true∧constS l=(tryS j l).1)∨constS l=(3,0,l):=by
 have key:∀ n k,k+n=5→(∃ j,j<5∧(tryS j l).2=true∧constK l n k=(tryS j l).1)∨constK l n k=(3,0,l):=by
  intro n
  induction n with
  | zero=>exact fun k _=>.inr rfl
  | succ n ih =>
   intro k hk
   rw [constK]
   by_cases h:(tryS k l).2=true
   ·rw [if_pos h]; exact .inl ⟨k,by omega,h,rfl⟩
   ·rw [if_neg h]; exact ih (k+1) (by omega)
 exact key 5 0 rfl
theorem code_inv {l:List UInt8} (h:codeS l≠0):(allNames[codeS l]?.getD []).length=l.length:=by
 apply Classical.byContradiction
 intro hn
 apply h
 refine code_no fun k k1 k7 g=>hn ?_
 rw [code_at k1 k7 g,← g,List.length_map]
theorem mark_len {l:List UInt8} (h1:¬ 256<l.length) (hp:l.all plainB=true) (h61:l.head?≠some 61):(markS (constS l).1 (showV (constS l).1 (constS l).2.1 (constS l).2.2)).length≤l.length:=by
 have hm:=mean_const h1 hp h61
 have no3:∀ (k:Nat) (x:List UInt8),k≠3→markS k x=x:=fun k x hk=>by unfold markS; rw [if_neg fun g=>hk g.1]
 rcases const_cases l with ⟨j,hj,h,e⟩ | e
 ·rw [e]
  obtain rfl | rfl | rfl | rfl | rfl:j=0∨j=1∨j=2∨j=3∨j=4:=by omega
  ·exact Nat.zero_le _
  ·have h:Lib.hasPrefix l [39]=true:=h
   rw [cut_eq.1,decide_eq_true_eq] at h
   show (markS 3 (Lib.trimPrefix l [39])).length≤_
   rw [cut_eq.2 h]
   cases l with
   | nil=>cases h
   | cons b r =>
    show (markS 3 r).length≤_
    unfold markS
    split <;> simp
  ·rw [tryS_2] at h ⊢
   by_cases g:l.map upB=trueB
   ·rw [if_pos g]
    have:=congrArg List.length g
    rw [List.length_map] at this
    rw [this]; exact Nat.le_refl 4
   ·rw [if_neg g] at h ⊢
    by_cases g:l.map upB=falseB
    ·rw [if_pos g]
     have:=congrArg List.length g
     rw [List.length_map] at this
     rw [this]; exact Nat.le_refl 5
    ·rw [if_neg g] at h
     exact absurd h (by decide)
  ·rw [tryS_3] at h ⊢
   by_cases g:codeS l=0
   ·rw [if_pos g] at h; exact absurd h (by decide)
   ·rw [if_neg g]
    show (markS 4 (allNames[((codeS l:Nat):Int).toNat]?.getD [])).length≤_
    rw [no3 4 _ (by decide),Int.toNat_natCast,code_inv g]
    exact Nat.le_refl _
  ·rw [tryS_4] at h ⊢
   by_cases g:(parD l).2=3
   ·rw [if_pos g]
    have:=parD_far g
    show (markS 4 [35,78,85,77,33]).length≤_
    rw [no3 4 _ (by decide)]
    exact this
   ·rw [if_neg g] at h ⊢
    have h:(parD l).2=0:=of_decide_eq_true h
    show (markS 1 (decS (parD l).1)).length≤_
    rw [no3 1 _ (by decide)]
    exact parD_len (by rw [← h])
 ·rw [e] at hm ⊢
  have hb:markB l=false:=by unfold markB; rw [hm]; simp
  show (markS 3 l).length≤_
  unfold markS
  rw [if_neg fun g=>by rw [hb] at g; exact absurd g.2 (by decide)]
  exact Nat.le_refl _
theorem const_can {l:List UInt8} (h1:¬ 256<l.length) (hp:l.all plainB=true) (h61:l.head?≠some 61):∃ c,constC (constS l).1 (constS l).2.1 (constS l).2.2=(c,0)∧c.length≤l.length:=by
 have hm:=mark_len h1 hp h61
 obtain ⟨g1,g2⟩:=constK_cell (chk_of (by omega) hp) 5 0
 have hno:¬ (valE (constS l).1 (constS l).2.1 (constS l).2.2≠0∨((constS l).1=4∧(constS l).2.1=6)):=by
  rintro (g | ⟨g3,g4⟩)
  ·exact g (valE_yes g1)
  ·apply g2
   have g5:(constS l).2.2=[]:=by
    rcases g1 with ⟨h,-⟩ | ⟨h,-⟩ | ⟨h,-⟩ | ⟨h,-⟩ | ⟨-,h,-⟩
    ·have h:(constS l).1=0:=h; omega
    ·have h:(constS l).1=1:=h; omega
    ·have h:(constS l).1=2:=h; omega
    ·have h:(constS l).1=3:=h; omega
    ·exact h
   show constS l=_
   rw [← g3,← g4,← g5]
 exact ⟨_,cst_ok hno (by omega),hm⟩
theorem show_of {t:List Nd} (ht:∀ n∈t,NdC n) (h:checkS t=0):∃ e:En,comW t []=[e]∧showT t=txT e.ts:=by
 obtain ⟨e,he,-,-⟩:=tree_cn t ht h
 refine ⟨e,he,?_⟩
 unfold showT
 have:=txW_com t []
 rw [he] at this
 rw [← show (List.map enT [e])=txW t [] from this]
 rfl
theorem form_len {L:List UInt8} {t:List Nd} (h:formS L=(t,0,0)):(showT t).length≤L.length:=by
 obtain ⟨-,-,-,hnd,hck,ts,n,h1,h2⟩:=form_good h
 obtain ⟨-,-,-,hl⟩:=tokens_ok h1
 obtain ⟨e,he,hx⟩:=show_of hnd hck
 obtain ⟨e2,he2,hw⟩:=wt_least h2
 rw [he] at he2
 obtain rfl:e=e2:=by simpa using he2
 rw [hx]
 exact Nat.le_trans hw (lex_len hl)
theorem can_main {l:List UInt8} {m:Mn} {a e:Int} (h:meanS l=(m,a,e)):(e≠0∧canS l=([],e))∨(e=0∧∃ c,canS l=(c,0)∧c.length≤l.length∧meanS c=(m,0,0)∧canS c=(c,0)):=by
 rcases mean_cases l with ⟨a',e',g,he⟩ | ⟨g,h2,h3,h4⟩ | ⟨t,g,h2,h3,h4,h5⟩
 ·rw [h] at g
  cases g
  exact .inl ⟨he,can_err h he⟩
 ·have hr:=mean_range g
  rw [h] at g
  cases g
  right
  obtain ⟨c,hc,hl⟩:=const_can (by omega) h3 h4
  obtain ⟨hm,-⟩:=cst_means hr.1 hr.2.1 hc
  refine ⟨rfl,c,?_,hl,hm,?_⟩
  ·rw [can_const h rfl]; exact hc
  ·rw [can_const hm rfl]; exact hc
 ·rw [h] at g
  cases g
  right
  obtain ⟨-,hck,-,hnd,hcs,-⟩:=form_good h5
  have hlen:=form_len h5
  rw [List.length_tail] at hlen
  have hl1:1≤l.length:=by
   cases l with
   | nil=>cases h4
   | cons=>simp
  have hsh:(showT t).length≤256:=by omega
  obtain ⟨ts,g1,g2⟩:=show_back t hnd hcs hsh
  have hfs:=form_pk g1 g2 hcs
  obtain ⟨-,-,hpl,-⟩:=tokens_ok g1
  have hF:showF (t.map Nd.any)=(showT t,0):=by
   have:=showF_ok hck (by rw [map_any]; omega)
   rw [map_any] at this
   exact this
  have hm:meanS (61::showT t)=(⟨true,(0,0,[]),t⟩,0,0):=by
   rw [mean_form (by rw [List.length_cons]; omega) (by rw [List.all_cons,List.all_eq_true.2 hpl]; rfl) rfl (by show (formS (showT t)).2.2=0; rw [hfs])]
   show ((⟨true,(0,0,[]),(formS (showT t)).1⟩:Mn),(0:Int),(0:Int))=_
   rw [hfs]
  have hcan:∀ {x:List UInt8},meanS x=(⟨true,(0,0,[]),t⟩,0,0)→canS x=(61::showT t,0):=by
   intro x hx
   rw [can_form hx rfl (by show (showF (t.map Nd.any)).2=0; rw [hF])]
   show (61::(showF (t.map Nd.any)).1,_)=_
   rw [hF]
  exact ⟨rfl,61::showT t,hcan h,by rw [List.length_cons]; omega,hm,hcan hm⟩
theorem can_same {s t:List UInt8} {m o:Mn} {a b:Int} {c x:List UInt8} (hs:meanS s=(m,a,0)) (ht:meanS t=(o,b,0)) (hc:canS s=(c,0)) (hx:canS t=(x,0)):c=x↔m=o:=by
 constructor
 ·rintro rfl
  rcases can_main hs with ⟨g,-⟩ | ⟨-,c1,g1,-,g2,-⟩
  ·exact absurd rfl g
  rcases can_main ht with ⟨g,-⟩ | ⟨-,c2,k1,-,k2,-⟩
  ·exact absurd rfl g
  rw [hc] at g1
  rw [hx] at k1
  cases g1
  cases k1
  rw [g2] at k2
  exact (Prod.mk.inj k2).1
 ·rintro rfl
  have e:canS s=canS t:=by unfold canS; rw [hs,ht]
  rw [hc,hx] at e
  exact (Prod.mk.inj e).1
