/- The own part of EntryBack beyond the base that the claims of the seat share. -/
import Derived.Test.YtfffihcadhfplaaGreatDoorRows
import Derived.WalkKit
import Derived.WalkSpells
import Derived.WalkLawsBesides
import Derived.Lib.Hide
import Derived.Deep.Slices
import Derived.Deep.Fields
import Derived.ChangeSame
import Derived.Lib.LaidTab
import Derived.Laws.OwnMore
import Derived.Deep.Draws
import Derived.Laws.Rows
import Derived.Deep.OwnRows
import Derived.Test.YtfffihcadhfplaaGreatDoorQShelf
import Derived.Test.YtfffihcadhfplaaGreatDoorQAddrP
import Derived.Lib.ItoaNum
import Derived.Test.YtfffihcadhfplaaGreatDoorQIterV
import Derived.Test.YtfffihcadhfplaaGreatDoorQLexP
import Derived.Deep.RegionHeld3
import Derived.Deep.AppendLies
import Derived.Deep.Onto
import Derived.Deep.RegionHeld
import Derived.RangeFuncNested
import Derived.RangeFuncBound
import Derived.RangeFuncCalls
import Derived.RangeFuncLeaves
import Derived.RangeFuncBox
import Derived.Shelf.Abstract
import Derived.OwnWalkIn
import Derived.TacticsInMore
import Derived.LoopNIn
import Derived.LoopIn
import Derived.Maps.AppendAt
import Derived.IntWalk
import Derived.Laws.IdiomStrings
import Derived.Lib.Strings
import Derived.Test.YtfffihcadhfplaaGreatDoorQLexC
import Derived.Laws.RangeString
import Derived.Laws.RangeAny
import Derived.Laws.BytesArg
import Derived.Lib.BufferRead
import Derived.WalkMore
import Derived.Test.YtfffihcadhfplaaGreatDoorQLexI
import Derived.Deep.DeepCutAuto
import Derived.Stop.LaidErr
import Derived.LaidLaws
import Derived.LaidSub
import Derived.Test.YtfffihcadhfplaaGreatDoorQVal
import Derived.Lib.IndexBytes
import Derived.Test.YtfffihcadhfplaaGreatDoorQLexD
import Derived.Test.YtfffihcadhfplaaGreatDoorQLexG
import Derived.Test.YtfffihcadhfplaaGreatDoorQLexJ
import Derived.Laws.Strings3
import Derived.Test.YtfffihcadhfplaaGreatDoorQLexK
import Derived.Lib.SmallJoins
import Derived.Shelf.Strings.Cut
import Derived.Shelf.Strings.Search2
import Derived.Shelf.Strconv.Itoa3
import Derived.Lib.AppendIntMem
import Derived.BigRegion
import Derived.Test.YtfffihcadhfplaaGreatDoorQAddP6
import Derived.Deep.LoopGhost
import Derived.Test.YtfffihcadhfplaaGreatDoorQLexM
import Derived.Laws.EntriesVeiled
import Derived.Test.YtfffihcadhfplaaGreatDoorQLexN
import Derived.Test.YtfffihcadhfplaaGreatDoorQParP
import Derived.Test.YtfffihcadhfplaaGreatDoorQParA
import Derived.Test.YtfffihcadhfplaaGreatDoorQParB
import Derived.Test.YtfffihcadhfplaaGreatDoorQTreA
import Derived.Test.YtfffihcadhfplaaGreatDoorQParK
import Derived.Test.YtfffihcadhfplaaGreatDoorQTreB
import Derived.ChangeArms
import Derived.Test.YtfffihcadhfplaaGreatDoorQGiv
import Derived.Shelf.Strings.Builder1
import Derived.Shelf.Strings.Builder2
import Derived.Shelf.Strings.OnBuilder
import Derived.Shelf.Small.Wraps
import Derived.Shelf.Strings.BuilderF
import Derived.Shelf.Strings.BuilderK
import Derived.Shelf.Utf8.RuneCount
import Derived.Shelf.Strings.Builder2Cap
import Derived.Shelf.Strconv.Itoa0
import Derived.Shelf.Strconv.Itoa1
import Derived.Shelf.LaysM
import Derived.Shelf.Strconv.Itoa2
import Derived.Shelf.Strings.Search1
import Derived.Shelf.Strings.Search3
import Derived.Shelf.Strings.Count
import Derived.Shelf.Strings.Shaped
import Derived.Shelf.GgClosure.StringsIndexFunc
import Derived.Ground.GgwProg
import Derived.Shelf.GgClosure.StringsIndexFuncTop
import Derived.Shelf.GgClosure.StringsRunes
import Derived.Shelf.Strings.Prefix
import Derived.Shelf.Strings.Split
import Derived.Shelf.Strings.Replace
import Derived.Shelf.Strings.SplitShaped
import Derived.Shelf.Unicode.Decode
import Derived.Shelf.Strings.RuneCount
import Derived.Shelf.Unicode.DecodeSlow
import Derived.Shelf.Unicode.DecodeAny
import Derived.Shelf.Strings.FuncGrows
import Derived.Shelf.Strings.BuilderCap
import Derived.Shelf.Slices.Turned
import Derived.Test.YtfffihcadhfplaaGreatDoorProg
import Derived.Lib.Replace
import Derived.Test.YtfffihcadhfplaaGreatDoorQLexO
import Derived.Laws.StructEq
import Derived.Test.YtfffihcadhfplaaGreatDoorQEqV
import Derived.Test.YtfffihcadhfplaaGreatDoorQSgn
import Derived.Test.YtfffihcadhfplaaGreatDoorQNdF
import Derived.Test.YtfffihcadhfplaaGreatDoorQNdG
import Derived.OpenShut
import Derived.WideMake
import Derived.Carry
import Derived.Lib.AppendStr
import Derived.Test.YtfffihcadhfplaaGreatDoorQDecF
import Derived.Test.YtfffihcadhfplaaGreatDoorQShw
import Derived.Test.YtfffihcadhfplaaGreatDoorQEvb
import Derived.Test.YtfffihcadhfplaaGreatDoorQEvc
import Derived.Test.YtfffihcadhfplaaGreatDoorQEna
import Derived.Test.YtfffihcadhfplaaGreatDoorQDpV
import Derived.Test.YtfffihcadhfplaaGreatDoorQEnb
import Derived.Defers
import Derived.Recover
import Derived.Test.YtfffihcadhfplaaGreatDoorQParE
import Derived.Test.YtfffihcadhfplaaGreatDoorQParF
import Derived.Test.YtfffihcadhfplaaGreatDoorQParG
import Derived.Test.YtfffihcadhfplaaGreatDoorQParH
import Derived.Test.YtfffihcadhfplaaGreatDoorQParI
import Derived.Test.YtfffihcadhfplaaGreatDoorQDcB
import Derived.Test.YtfffihcadhfplaaGreatDoorQTwk
import Derived.Test.YtfffihcadhfplaaGreatDoorQShn
import Derived.Test.YtfffihcadhfplaaGreatDoorQForB
import Derived.Test.YtfffihcadhfplaaGreatDoorQEnc
import Derived.Test.YtfffihcadhfplaaGreatDoorQEnd
import Derived.Test.YtfffihcadhfplaaGreatDoorQLit
import Derived.Test.YtfffihcadhfplaaGreatDoorQTxt
import Derived.Test.YtfffihcadhfplaaGreatDoorQTxu
import Derived.Test.YtfffihcadhfplaaGreatDoorQTxv
import Derived.Lib.Repeat
import Derived.Test.YtfffihcadhfplaaGreatDoorQEbp
import Derived.Test.YtfffihcadhfplaaGreatDoorQEng
namespace Go.Proofs.YtfffihcadhfplaaGreatDoor
set_option maxRecDepth 100000
open Go.RowKit Go.ChangeShapes Go.WideShapes Go.ChangeAt
theorem threeV {cs:List Value} (h:cs.length=3):∃ v0 v1 v2,cs=[v0,v1,v2]:=by
 match cs,h with
 | [v0,v1,v2],_=>exact ⟨_,_,_,rfl⟩
theorem val_given {H:Type} {enc:TypeId×Value→H} {w:World} {base:Nat} {spare:Nat→Bool} {held:Bool} {r:Reach} {b0:Nat} {v:Value} {d:DataW H} {p:List MemPlace}
  (hv:Value.okWide Tryz.prog w r b0 23 v) (h:DataW.Trod enc Tryz.prog w base spare held 23 v d p):∃ (k:Nat) (n:Int) (s:ByteArray),v=.agg #[.int .u8 (k:Nat),.int .i64 n,.string s]∧-9223372036854775808≤n∧n≤9223372036854775807:=by
 obtain ⟨cs,rfl,-⟩:=okWide_struct Tryz.underlying23 hv
 obtain ⟨fuel,ht⟩:=h
 have hok:OkL [.int .u8,.int .i64,.str] cs.toList:=flat_open fl_val ht
 obtain ⟨l⟩:=cs
 obtain ⟨v0,v1,v2,rfl⟩:=threeV (show l.length=3 from hok.len)
 obtain ⟨⟨n0,rfl,w0⟩,⟨n1,rfl,w1⟩,⟨s,rfl,-⟩,-⟩:=hok
 have h0:=wf_u8 w0
 have h1:=wf_i64 w1
 exact ⟨n0.toNat,n1,s,by rw [Int.toNat_of_nonneg h0.1],h1.1,h1.2⟩
set_option maxRecDepth 100000
set_option maxHeartbeats 8000000
open Go.RowKit
attribute [local go_sem high] eq_val
theorem ne_mark (S:ByteArray):((⟨#[39]⟩++S:ByteArray).toList == S.toList)=false:=by
 rw [beq_eq_false_iff_ne,toL,toL]
 intro e
 have h:=congrArg List.length e
 rw [size_l,size_l,ByteArray.size_append] at h
 have:(⟨#[39]⟩:ByteArray).size=1:=rfl
 omega
theorem cyc_iff (k:Nat) (n:Int) (v:ByteArray) (hv:valE k n v.data.toList=0):eq3 (k:Nat) n 4 6 v.toList []=decide (k=4∧n=6):=by
 rw [Bool.eq_iff_iff,eq3_iff,decide_eq_true_eq,toL]
 constructor
 ·rintro ⟨g1,g2,-⟩; exact ⟨by omega,g2⟩
 ·rintro ⟨rfl,rfl⟩
  refine ⟨rfl,rfl,?_⟩
  rcases cell_of hv with ⟨h,-⟩ | ⟨h,-⟩ | ⟨h,-⟩ | ⟨h,-⟩ | ⟨-,h,-⟩
  ·cases h
  ·cases h
  ·cases h
  ·cases h
  ·exact h
theorem law_EntryBack (k:Nat) (n:Int) (v s:ByteArray) (h1 : -9223372036854775808≤n) (h2:n≤9223372036854775807) (w:World) (he:WEnv w) :
  Calls Tryz.prog 5 #[.agg #[.int .u8 (k:Nat),.int .i64 n,.string v],.string s] w fun e w'=>e=.returned (.bool true)∧Below w.heap.size w w':=by
 have HE:=keep he
 have HKN:=keep (fun W h=>law_known11 W h)
 clear he
 by_cases hb1:(v.size:Int)>600
 ·have H1:=Lib.hid ((Ok.start w).alloc w.heap.size 23 [.int .u8 (k:Nat),.int .i64 n,.string v] rfl)
  go_enter Tryz.func5,Tryz.ntmps5
  go_wp2_with fail
  generalize (w.alloc (.cells #[.int .u8 (k:Nat),.int .i64 n,.string v] 23))=W2 at H1 ⊢
  refine (HKN.out _ (HE.out.below H1.out.bel)).mono ?_
  rintro e w3 ⟨rfl,hb4⟩
  have H5:=Lib.hid (H1.out.below hb4)
  clear hb4 H1
  go_wp2_with fail
  go_ret
  exact ⟨rfl,H5.out.bel⟩
 by_cases hb2:(s.size:Int)>600
 ·have H1:=Lib.hid ((Ok.start w).alloc w.heap.size 23 [.int .u8 (k:Nat),.int .i64 n,.string v] rfl)
  go_enter Tryz.func5,Tryz.ntmps5
  go_wp2_with fail
  generalize (w.alloc (.cells #[.int .u8 (k:Nat),.int .i64 n,.string v] 23))=W2 at H1 ⊢
  refine (HKN.out _ (HE.out.below H1.out.bel)).mono ?_
  rintro e w3 ⟨rfl,hb4⟩
  have H5:=Lib.hid (H1.out.below hb4)
  clear hb4 H1
  go_wp2_with fail
  go_ret
  exact ⟨rfl,H5.out.bel⟩
 have hsv:Hid (v.size≤4611686018427387904):=Lib.hid (by omega)
 obtain ⟨E,hE⟩:∃ E,valE k n v.data.toList=E:=⟨_,rfl⟩
 obtain ⟨⟨c,er⟩,hC⟩:∃ R,constC k n v.data.toList=R:=⟨_,rfl⟩
 have HCO:=keep (fun W hW=>entry_Constant k n v hsv.out h1 h2 W hW)
 have HCK:=keep (fun W=>val_Check k n v hsv.out W)
 rw [hC] at HCO
 rw [hE] at HCK
 dsimp only at HCO
 obtain ⟨CC,hCC⟩:∃ C:ByteArray,⟨c.toArray⟩=C:=⟨_,rfl⟩
 have hCl:CC.data.toList=c:=by rw [← hCC]
 rw [hCC] at HCO
 obtain ⟨B,hB⟩:∃ B:Bool,(decide (E≠0) || eq3 (k:Nat) n 4 6 v.toList [])=B:=⟨_,rfl⟩
 have HB1:=keep (show (E != 0)=true→true=B from fun g=>by
  have g:E≠0:=by simpa using g
  rw [← hB,decide_eq_true g]; rfl)
 have HB2:=keep (show (E != 0)=false→eq3 (k:Nat) n 4 6 v.toList []=B from fun g=>by
  have g:E=0:=by simpa using g
  rw [← hB,decide_eq_false (by simp [g])]; rfl)
 have HB3:=keep (show B=true→er=2 from fun g=>by
  rw [← hB,Bool.or_eq_true,decide_eq_true_eq] at g
  have h9:valE k n v.data.toList≠0∨(k=4∧n=6):=by
   by_cases hz:E=0
   ·rcases g with g | g
    ·exact absurd hz g
    ·obtain ⟨g1,g2,-⟩:=(eq3_iff ..).1 g
     exact .inr ⟨by omega,g2⟩
   ·exact .inl (by rw [hE]; exact hz)
  rw [cst_bad h9] at hC
  exact (Prod.mk.inj hC).2.symm)
 have HB4:=keep (show B=false→valE k n v.data.toList=0∧¬ (k=4∧n=6) from fun g=>by
  rw [← hB,Bool.or_eq_false_iff,decide_eq_false_iff_not] at g
  have hz:E=0:=by simpa using g.1
  refine ⟨by rw [hE]; exact hz,?_⟩
  have g2:=g.2
  rw [cyc_iff k n v (by rw [hE]; exact hz)] at g2
  simpa using g2)
 have HC:=keep hC
 have HCL:=keep hCl
 clear hC hE hB hCC hCl
 have H1:=Lib.hid ((Ok.start w).alloc w.heap.size 23 [.int .u8 (k:Nat),.int .i64 n,.string v] rfl)
 go_enter Tryz.func5,Tryz.ntmps5
 go_wp2_with fail
 generalize (w.alloc (.cells #[.int .u8 (k:Nat),.int .i64 n,.string v] 23))=W2 at H1 ⊢
 refine (HCO.out _ (HE.out.below H1.out.bel).1).mono ?_
 rintro e w3 ⟨rfl,hb4⟩
 have H5:=Lib.hid (H1.out.below hb4)
 clear hb4 H1
 have F6:=H5.out.sees
 simp only [sees,kBlk,cellsAt,Nat.reduceAdd] at F6
 obtain ⟨⟨z0,c00,c01,c02,-⟩,-⟩:=F6
 go_upto_region 5 with fail
 have y7:=z0
 clear z0 c00 c01 c02
 have H8:=Lib.hid (H5.out.var w3.heap.size 23 [.int .u8 4,.int .i64 6,.string ⟨#[]⟩] rfl)
 clear H5
 generalize (w3.alloc (.cells #[.int .u8 4,.int .i64 6,.string ⟨#[]⟩] 23))=W9 at H8 ⊢
 have F10:=H8.out.sees
 simp only [sees,kBlk,kVar,cellsAt,Nat.reduceAdd] at F10
 obtain ⟨⟨⟨z0,fz0⟩,c00,c01,c02,-⟩,⟨z1,c10,c11,c12,-⟩,-⟩:=F10
 go_cut [36] (fun s36 wx=>s36=.bool B∧Hid (Ok w [kVar (w3.heap.size) 23 [.int .u8 4,.int .i64 6,.string ⟨#[]⟩],kBlk (w.heap.size) 23 [.int .u8 (k:Nat),.int .i64 n,.string v]] wx))
 case first =>
  go_wp2_with fail
  refine (HCK.out _).mono ?_
  rintro e w11 ⟨rfl,hb12⟩
  clear z0 fz0 c00 c01 c02 z1 c10 c11 c12
  have H13:=Lib.hid (H8.out.below hb12)
  clear hb12 H8
  have F14:=H13.out.sees
  simp only [sees,kBlk,kVar,cellsAt,Nat.reduceAdd] at F14
  obtain ⟨⟨⟨z0,fz0⟩,c00,c01,c02,-⟩,⟨z1,c10,c11,c12,-⟩,-⟩:=F14
  by_cases hE0:(E != 0)=true
  ·obtain rfl:=HB1.out hE0
   go_wp2_with fail
   go_meet
   exact ⟨rfl,H13⟩
  ·have hE1:(E != 0)=false:=by simpa using hE0
   obtain rfl:=HB2.out hE1
   go_wp2_with fail
   go_meet
   exact ⟨rfl,H13⟩
 case rest =>
  clear z0 fz0 c00 c01 c02 z1 c10 c11 c12
  clear H8
  obtain ⟨rfl,H⟩:=hcut
  have F11:=H.out.sees
  simp only [sees,kBlk,kVar,cellsAt,Nat.reduceAdd] at F11
  obtain ⟨⟨⟨z0,fz0⟩,c00,c01,c02,-⟩,⟨z1,c10,c11,c12,-⟩,-⟩:=F11
  go_upto_if 36 with fail
  go_cut [] (fun wx=>Hid (Ok w [kVar (w3.heap.size) 23 [.int .u8 4,.int .i64 6,.string ⟨#[]⟩],kBlk (w.heap.size) 23 [.int .u8 (k:Nat),.int .i64 n,.string v]] wx))
  case first =>
   cases B with
   | true =>
    have he2:=HB3.out rfl
    subst he2
    go_wp2_with fail
    go_meet
    exact H
   | false =>
    obtain ⟨hv0,hq⟩:=HB4.out rfl
    by_cases her:er=0
    ·subst her
     obtain ⟨hm,hsh,hcl⟩:=cst_means h1 h2 HC.out
     rw [← HCL.out] at hm
     have HOF:=keep (of_plain hm)
     obtain ⟨T,hT⟩:∃ T:ByteArray,⟨v.data.toList.toArray⟩=T:=⟨_,rfl⟩
     have hTv:T=v:=by rw [← hT]
     subst hTv
     rw [hT] at HOF
     have HSH:=keep (fun W hW=>val_Show k n T hsv.out h1 h2 W hW (cell_of hv0))
     obtain ⟨S,hS⟩:∃ S:ByteArray,⟨(showV k n T.data.toList).toArray⟩=S:=⟨_,rfl⟩
     rw [hS] at HSH
     have hSl:S.data.toList=showV k n T.data.toList:=by rw [← hS]
     have hself:=eq_self3 (k:Nat) n T.toList
     have hcc:CC=S∨CC=⟨#[39]⟩++S:=by
      rcases hsh with g | g
      ·left; apply eq_str; rw [HCL.out,g,hSl]
      ·right; apply eq_str; rw [HCL.out,g,← hSl]; simp [ByteArray.data_append]
     have hne:=ne_mark S
     have hSz:S.size≤256:=by
      have e:=size_l S
      rw [hSl] at e
      rcases hsh with g | g
      ·rw [g] at hcl; omega
      ·rw [g,List.length_cons] at hcl; omega
     have z39:(⟨#[39]⟩:ByteArray).size=1:=rfl
     clear hv0 hq hm hsh hcl hT hS hSl
     go_wp2_with fail
     refine (HOF.out _ (HE.out.below H.out.bel).1).mono ?_
     rintro e w12 ⟨ta,tc,rfl,hb13⟩
     clear z0 fz0 c00 c01 c02 z1 c10 c11 c12
     have H14:=Lib.hid (H.out.below hb13)
     clear hb13
     have F15:=H14.out.sees
     simp only [sees,kBlk,kVar,cellsAt,Nat.reduceAdd] at F15
     obtain ⟨⟨⟨z0,fz0⟩,c00,c01,c02,-⟩,⟨z1,c10,c11,c12,-⟩,-⟩:=F15
     go_upto_region 12 with fail
     have y16:=z0
     have y17:=z1
     clear z0 fz0 c00 c01 c02 z1 c10 c11 c12
     have H18:=Lib.hid (H14.out.var w12.heap.size 31 [.bool false,.int .u8 (k:Nat),.int .i64 n,.string T,.slice ta 0 tc] rfl)
     clear H14
     generalize (w12.alloc (.cells #[.bool false,.int .u8 (k:Nat),.int .i64 n,.string T,.slice ta 0 tc] 31))=W19 at H18 ⊢
     have F20:=H18.out.sees
     simp only [sees,kBlk,kVar,cellsAt,Nat.reduceAdd] at F20
     obtain ⟨⟨⟨z0,fz0⟩,c00,c01,c02,c03,c04,-⟩,⟨⟨z1,fz1⟩,c10,c11,c12,-⟩,⟨z2,c20,c21,c22,-⟩,-⟩:=F20
     go_wp2_with fail
     refine (HSH.out _ (HE.out.below H18.out.bel).1).mono ?_
     rintro e w21 ⟨rfl,hb22⟩
     clear z0 fz0 c00 c01 c02 c03 c04 z1 fz1 c10 c11 c12 z2 c20 c21 c22
     have H23:=Lib.hid (H18.out.below hb22)
     clear hb22 H18
     have F24:=H23.out.sees
     simp only [sees,kBlk,kVar,cellsAt,Nat.reduceAdd] at F24
     obtain ⟨⟨⟨z0,fz0⟩,c00,c01,c02,c03,c04,-⟩,⟨⟨z1,fz1⟩,c10,c11,c12,-⟩,⟨z2,c20,c21,c22,-⟩,-⟩:=F24
     rcases hcc with rfl | hcc
     ·go_wp2_with fail
      go_meet
      exact Lib.hid (H23.out.drop _ (by simp))
     ·have hne2:(CC.toList == S.toList)=false:=by rw [hcc]; exact hne
      have heq2:(CC.toList == (⟨#[39]⟩++S:ByteArray).toList)=true:=by rw [hcc]; exact beq_self_eq_true _
      clear hcc hne
      go_wp2_with fail
      refine (HSH.out _ (HE.out.below H23.out.bel).1).mono ?_
      rintro e w25 ⟨rfl,hb26⟩
      clear z0 fz0 c00 c01 c02 c03 c04 z1 fz1 c10 c11 c12 z2 c20 c21 c22
      have H27:=Lib.hid (H23.out.below hb26)
      clear hb26 H23
      have F28:=H27.out.sees
      simp only [sees,kBlk,kVar,cellsAt,Nat.reduceAdd] at F28
      obtain ⟨⟨⟨z0,fz0⟩,c00,c01,c02,c03,c04,-⟩,⟨⟨z1,fz1⟩,c10,c11,c12,-⟩,⟨z2,c20,c21,c22,-⟩,-⟩:=F28
      go_wp2_with fail
      go_meet
      exact Lib.hid (H27.out.drop _ (by simp))
    ·obtain ⟨rfl,rfl,hvl⟩:=cst_err h1 h2 HC.out her hv0 hq
     have hvs:((v.size:Int) != 256)=false:=by rw [size_l] at hvl; simp; omega
     clear her hv0 hq hvl
     go_wp2_with fail
     go_meet
     exact H
  case rest =>
   clear z0 fz0 c00 c01 c02 z1 c10 c11 c12
   clear H
   have H:=hcut
   clear hcut HB1 HB2 HB3 HB4 HC HCL HCO HCK
   have F12:=H.out.sees
   simp only [sees,kBlk,kVar,cellsAt,Nat.reduceAdd] at F12
   obtain ⟨⟨⟨z0,fz0⟩,c00,c01,c02,-⟩,⟨z1,c10,c11,c12,-⟩,-⟩:=F12
   obtain ⟨⟨⟨f,⟨a,n1,t1⟩,t⟩,at_,er2⟩,hm⟩:∃ R,meanS s.data.toList=R:=⟨_,rfl⟩
   have HOF:=keep (of_plain hm)
   obtain ⟨hcy,hbk⟩:=mean_back hm
   have hr:=mean_range hm
   have hcy3:eq3 (a:Nat) n1 4 6 t1 []=false:=by
    cases g:eq3 (a:Nat) n1 4 6 t1 [] with
    | false=>rfl
    | true =>
     obtain ⟨g1,g2,g3⟩:=(eq3_iff ..).1 g
     have g1:a=4:=by omega
     exact absurd (by show (a,n1,t1)=_; rw [g1,g2,g3]) hcy
   obtain ⟨tn,htn⟩:∃ tn,t.length=tn:=⟨_,rfl⟩
   rw [htn] at HOF
   have HBK:=keep hbk
   have HTN:=keep htn
   have HR:=keep hr
   clear hm hcy hbk htn hr
   go_wp2_with fail
   refine (HOF.out _ (HE.out.below H.out.bel).1).mono ?_
   rintro e w13 ⟨ta,tc,rfl,hb14⟩
   clear z0 fz0 c00 c01 c02 z1 c10 c11 c12
   have H15:=Lib.hid (H.out.below hb14)
   clear hb14 H
   have F16:=H15.out.sees
   simp only [sees,kBlk,kVar,cellsAt,Nat.reduceAdd] at F16
   obtain ⟨⟨⟨z0,fz0⟩,c00,c01,c02,-⟩,⟨z1,c10,c11,c12,-⟩,-⟩:=F16
   go_upto_region 15 with fail
   have y17:=z0
   have y18:=z1
   clear z0 fz0 c00 c01 c02 z1 c10 c11 c12
   have H19:=Lib.hid (H15.out.var w13.heap.size 31 [.bool f,.int .u8 (a:Nat),.int .i64 n1,.string ⟨t1.toArray⟩,.slice ta tn tc] rfl)
   clear H15
   generalize (w13.alloc (.cells #[.bool f,.int .u8 (a:Nat),.int .i64 n1,.string ⟨t1.toArray⟩,.slice ta tn tc] 31))=W20 at H19 ⊢
   have F21:=H19.out.sees
   simp only [sees,kBlk,kVar,cellsAt,Nat.reduceAdd] at F21
   obtain ⟨⟨⟨z0,fz0⟩,c00,c01,c02,c03,c04,-⟩,⟨⟨z1,fz1⟩,c10,c11,c12,-⟩,⟨z2,c20,c21,c22,-⟩,-⟩:=F21
   by_cases her:er2=0
   ·subst her
    obtain ⟨g1,g2⟩:=HBK.out rfl
    cases f with
    | true =>
     obtain ⟨g3,g4,g5⟩:=g1 rfl
     have e1:a=0:=congrArg (fun v:Vl=>v.1) g3
     have e2:n1=0:=congrArg (fun v:Vl=>v.2.1) g3
     have e3:t1=[]:=congrArg (fun v:Vl=>v.2.2) g3
     clear g3
     subst e1 e2 e3
     have g6:((tn:Int) == 0)=false:=by rw [HTN.out] at g4; simp; omega
     have hs0:0<s.size:=by
      rcases Nat.eq_zero_or_pos s.size with h0 | h0
      ·rw [nil_size (by omega)] at g5; cases g5
      ·exact h0
     have hs0i:(0:Int)<(s.size:Int):=by omega
     rw [head_byte hs0] at g5
     have g7 : (s[0]'hs0) = 61:=Option.some.inj g5
     have g8 : (((s[0]'hs0).toNat : Int) != 61) = false:=by rw [g7]; rfl
     clear g1 g2 g4 g5 g7
     go_wp2_with fail
     refine (HKN.out _ (HE.out.below H19.out.bel)).mono ?_
     rintro e w22 ⟨rfl,hb23⟩
     clear z0 fz0 c00 c01 c02 c03 c04 z1 fz1 c10 c11 c12 z2 c20 c21 c22
     have H24:=Lib.hid (H19.out.below hb23)
     clear hb23 H19
     go_wp2_with fail
     go_ret
     exact ⟨rfl,H24.out.bel⟩
    | false =>
     obtain ⟨g3,g4⟩:=g2 rfl
     have g4:t=[]:=g4
     have g5:tn=0:=by rw [← HTN.out,g4]; rfl
     subst g5
     have hr2:t1.length≤256:=HR.out.2.2
     have HVC:=keep (fun W=>val_Check a n1 ⟨t1.toArray⟩ (by show t1.toArray.size≤_; rw [List.size_toArray]; omega) W)
     rw [show (⟨t1.toArray⟩:ByteArray).data.toList=t1 from rfl,show valE a n1 t1=0 from g3] at HVC
     clear g1 g2 g3 g4 hr2
     go_wp2_with fail
     refine (HVC.out _).mono ?_
     rintro e w22 ⟨rfl,hb23⟩
     clear z0 fz0 c00 c01 c02 c03 c04 z1 fz1 c10 c11 c12 z2 c20 c21 c22
     have H24:=Lib.hid (H19.out.below hb23)
     clear hb23 H19
     have F25:=H24.out.sees
     simp only [sees,kBlk,kVar,cellsAt,Nat.reduceAdd] at F25
     obtain ⟨⟨⟨z0,fz0⟩,c00,c01,c02,c03,c04,-⟩,⟨⟨z1,fz1⟩,c10,c11,c12,-⟩,⟨z2,c20,c21,c22,-⟩,-⟩:=F25
     go_wp2_with fail
     refine (HKN.out _ (HE.out.below H24.out.bel)).mono ?_
     rintro e w26 ⟨rfl,hb27⟩
     clear z0 fz0 c00 c01 c02 c03 c04 z1 fz1 c10 c11 c12 z2 c20 c21 c22
     have H28:=Lib.hid (H24.out.below hb27)
     clear hb27 H24
     go_wp2_with fail
     go_ret
     exact ⟨rfl,H28.out.bel⟩
   ·have her1:(er2 == 0)=false:=by simpa using her
    clear her
    go_wp2_with fail
    refine (HKN.out _ (HE.out.below H19.out.bel)).mono ?_
    rintro e w22 ⟨rfl,hb23⟩
    clear z0 fz0 c00 c01 c02 c03 c04 z1 fz1 c10 c11 c12 z2 c20 c21 c22
    have H24:=Lib.hid (H19.out.below hb23)
    clear hb23 H19
    go_wp2_with fail
    go_ret
    exact ⟨rfl,H24.out.bel⟩
theorem EntryBack_walk (k:Nat) (n:Int) (v s:ByteArray) (w:World) (hlo : -9223372036854775808≤n) (hhi:n≤9223372036854775807) (_hs:s.size≤maxLen) (hL:laidMetH Tryz.prog Rows.entryBackRow.laid w) (hS:w.ShapedOpen Tryz.prog) :
  Calls Tryz.prog 5 #[.agg #[.int .u8 (k:Nat),.int .i64 n,.string v],.string s] w fun e w'=>e=.returned (.bool true)∧Below w.heap.size w w' :=
 law_EntryBack k n v s hlo hhi w (env10_of hL hS (by kernel_rfl) (by kernel_rfl))
