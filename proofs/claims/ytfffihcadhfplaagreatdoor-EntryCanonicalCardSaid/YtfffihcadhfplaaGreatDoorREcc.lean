/- The own part of EntryCanonical beyond the base that the claims of the seat share. -/
import Derived.Test.YtfffihcadhfplaaGreatDoorRows
import Derived.WalkKit
import Derived.WalkSpells
import Derived.WalkLawsBesides
import Derived.Lib.Hide
import Derived.Deep.Slices
import Derived.Deep.Fields
import Derived.ChangeSame
import Derived.Lib.LaidTab
import Derived.Laws.OwnMore
import Derived.Deep.Draws
import Derived.Laws.Rows
import Derived.Deep.OwnRows
import Derived.Test.YtfffihcadhfplaaGreatDoorPShelf
import Derived.Test.YtfffihcadhfplaaGreatDoorPAddrP
import Derived.Lib.ItoaNum
import Derived.Test.YtfffihcadhfplaaGreatDoorPIterV
import Derived.Test.YtfffihcadhfplaaGreatDoorPLexP
import Derived.Test.YtfffihcadhfplaaGreatDoorPParP
import Derived.Test.YtfffihcadhfplaaGreatDoorPParK
import Derived.Test.YtfffihcadhfplaaGreatDoorPLexD
import Derived.Test.YtfffihcadhfplaaGreatDoorPShL
import Derived.Test.YtfffihcadhfplaaGreatDoorPShO
import Derived.Test.YtfffihcadhfplaaGreatDoorPShT
import Derived.Test.YtfffihcadhfplaaGreatDoorPShc
import Derived.Deep.RegionHeld3
import Derived.Deep.AppendLies
import Derived.Deep.Onto
import Derived.WideMake
import Derived.Carry
import Derived.Deep.RegionHeld
import Derived.RangeFuncNested
import Derived.RangeFuncBound
import Derived.RangeFuncCalls
import Derived.RangeFuncLeaves
import Derived.RangeFuncBox
import Derived.Shelf.Abstract
import Derived.OwnWalkIn
import Derived.TacticsInMore
import Derived.LoopNIn
import Derived.LoopIn
import Derived.Maps.AppendAt
import Derived.IntWalk
import Derived.Laws.IdiomStrings
import Derived.Lib.Strings
import Derived.Test.YtfffihcadhfplaaGreatDoorPLexC
import Derived.Laws.RangeString
import Derived.Laws.RangeAny
import Derived.Laws.BytesArg
import Derived.Lib.BufferRead
import Derived.WalkMore
import Derived.Test.YtfffihcadhfplaaGreatDoorPLexI
import Derived.Deep.DeepCutAuto
import Derived.Stop.LaidErr
import Derived.LaidLaws
import Derived.LaidSub
import Derived.Test.YtfffihcadhfplaaGreatDoorPVal
import Derived.Lib.IndexBytes
import Derived.Test.YtfffihcadhfplaaGreatDoorPLexG
import Derived.Test.YtfffihcadhfplaaGreatDoorPLexJ
import Derived.Laws.Strings3
import Derived.Test.YtfffihcadhfplaaGreatDoorPLexK
import Derived.Lib.SmallJoins
import Derived.Shelf.Strings.Cut
import Derived.Shelf.Strings.Search2
import Derived.Shelf.Strconv.Itoa3
import Derived.Lib.AppendIntMem
import Derived.BigRegion
import Derived.Test.YtfffihcadhfplaaGreatDoorPAddP6
import Derived.Deep.LoopGhost
import Derived.Test.YtfffihcadhfplaaGreatDoorPLexM
import Derived.Laws.EntriesVeiled
import Derived.Test.YtfffihcadhfplaaGreatDoorPLexN
import Derived.Test.YtfffihcadhfplaaGreatDoorPParA
import Derived.Test.YtfffihcadhfplaaGreatDoorPParB
import Derived.Test.YtfffihcadhfplaaGreatDoorPTreA
import Derived.Shelf.Strings.Builder1
import Derived.Shelf.Strings.Builder2
import Derived.Shelf.Strings.OnBuilder
import Derived.Shelf.Small.Wraps
import Derived.Shelf.Strings.BuilderF
import Derived.Shelf.Strings.BuilderK
import Derived.Shelf.Utf8.RuneCount
import Derived.Shelf.Strings.Builder2Cap
import Derived.Shelf.Strconv.Itoa0
import Derived.Shelf.Strconv.Itoa1
import Derived.Shelf.LaysM
import Derived.Shelf.Strconv.Itoa2
import Derived.Shelf.Strings.Search1
import Derived.Shelf.Strings.Search3
import Derived.Shelf.Strings.Count
import Derived.Shelf.Strings.Shaped
import Derived.Shelf.GgClosure.StringsIndexFunc
import Derived.Ground.GgwProg
import Derived.Shelf.GgClosure.StringsIndexFuncTop
import Derived.Shelf.GgClosure.StringsRunes
import Derived.Shelf.Strings.Prefix
import Derived.Shelf.Strings.Split
import Derived.Shelf.Strings.Replace
import Derived.Shelf.Strings.SplitShaped
import Derived.Shelf.Unicode.Decode
import Derived.Shelf.Strings.RuneCount
import Derived.Shelf.Unicode.DecodeSlow
import Derived.Shelf.Unicode.DecodeAny
import Derived.Shelf.Strings.FuncGrows
import Derived.Shelf.Strings.BuilderCap
import Derived.Shelf.Slices.Turned
import Derived.Test.YtfffihcadhfplaaGreatDoorProg
import Derived.Lib.Replace
import Derived.Test.YtfffihcadhfplaaGreatDoorPDecF
import Derived.Laws.StructEq
import Derived.Test.YtfffihcadhfplaaGreatDoorPEqV
import Derived.Lib.AppendStr
import Derived.Test.YtfffihcadhfplaaGreatDoorPShw
import Derived.Test.YtfffihcadhfplaaGreatDoorPTreB
import Derived.Test.YtfffihcadhfplaaGreatDoorPParM
import Derived.Test.YtfffihcadhfplaaGreatDoorPNdF
import Derived.Test.YtfffihcadhfplaaGreatDoorPTwk
import Derived.Test.YtfffihcadhfplaaGreatDoorPShn
import Derived.OpenShut
import Derived.Test.YtfffihcadhfplaaGreatDoorPForB
import Derived.Test.YtfffihcadhfplaaGreatDoorPLit
import Derived.Test.YtfffihcadhfplaaGreatDoorPDpV
import Derived.Test.YtfffihcadhfplaaGreatDoorPTxt
import Derived.Test.YtfffihcadhfplaaGreatDoorPTxu
import Derived.Test.YtfffihcadhfplaaGreatDoorPTxv
import Derived.Lib.Repeat
import Derived.Test.YtfffihcadhfplaaGreatDoorPEnf
import Derived.Test.YtfffihcadhfplaaGreatDoorPEvb
import Derived.Test.YtfffihcadhfplaaGreatDoorPEna
import Derived.Test.YtfffihcadhfplaaGreatDoorPEnb
import Derived.Defers
import Derived.Recover
import Derived.Test.YtfffihcadhfplaaGreatDoorPParF
import Derived.Test.YtfffihcadhfplaaGreatDoorPParG
import Derived.Test.YtfffihcadhfplaaGreatDoorPParH
import Derived.Test.YtfffihcadhfplaaGreatDoorPParI
import Derived.Test.YtfffihcadhfplaaGreatDoorPEnc
import Derived.Test.YtfffihcadhfplaaGreatDoorPEnd
import Derived.Test.YtfffihcadhfplaaGreatDoorPEcl
import Derived.Test.YtfffihcadhfplaaGreatDoorPEcm
import Derived.ChangeArms
import Derived.Test.YtfffihcadhfplaaGreatDoorPNdG
namespace Go.Proofs.YtfffihcadhfplaaGreatDoor
set_option maxRecDepth 100000
set_option maxHeartbeats 8000000
open Go.RowKit
theorem size_can {C:ByteArray} {c:List UInt8} (h:⟨c.toArray⟩=C):C.size=c.length∧C.data.toList=c:=by
 subst h
 exact ⟨by show c.toArray.size=_; rw [List.size_toArray],rfl⟩
theorem tree_small {l:List UInt8} {m:Mn} {a e:Int} (h:meanS l=(m,a,e)):m.t.length≤1000:=by
 rcases mean_cases l with ⟨a',e',g,-⟩ | ⟨g,-⟩ | ⟨t,g,-,-,-,h5⟩
 ·rw [h] at g; cases g; exact Nat.zero_le _
 ·rw [h] at g; cases g; exact Nat.zero_le _
 ·rw [h] at g
  cases g
  obtain ⟨-,h6,-⟩:=form_good h5
  obtain ⟨-,-,-,h7,-⟩:=checkA_zero h6
  rw [List.length_map] at h7
  show t.length≤_
  omega
theorem law_EntryCanonical (s t:ByteArray) (w:World) (he:WEnv w) :
  Calls Tryz.prog 4 #[.string s,.string t] w fun e w'=>e=.returned (.bool true)∧Below w.heap.size w w':=by
 have HE:=keep he
 have HKN:=keep (fun W h=>law_known11 W h)
 clear he
 by_cases hb1:(s.size:Int)>600
 ·have H1:=Lib.hid (Ok.start w)
  go_enter Tryz.func4,Tryz.ntmps4
  go_wp2_with fail
  refine (HKN.out _ (HE.out.below H1.out.bel)).mono ?_
  rintro e w2 ⟨rfl,hb3⟩
  have H4:=Lib.hid (H1.out.below hb3)
  clear hb3 H1
  go_wp2_with fail
  go_ret
  exact ⟨rfl,H4.out.bel⟩
 by_cases hb2:(t.size:Int)>600
 ·have H1:=Lib.hid (Ok.start w)
  go_enter Tryz.func4,Tryz.ntmps4
  go_wp2_with fail
  refine (HKN.out _ (HE.out.below H1.out.bel)).mono ?_
  rintro e w2 ⟨rfl,hb3⟩
  have H4:=Lib.hid (H1.out.below hb3)
  clear hb3 H1
  go_wp2_with fail
  go_ret
  exact ⟨rfl,H4.out.bel⟩
 obtain ⟨⟨⟨f,⟨a,n1,t1⟩,tr⟩,at1,e1⟩,hm⟩:∃ R,meanS s.data.toList=R:=⟨_,rfl⟩
 have HOF:=keep (of_rows hm)
 have HCA:=keep (fun W h=>entry_Canonical s W h)
 have HS1:=keep (tree_small hm)
 have HM:=keep hm
 obtain ⟨tn,htn⟩:∃ tn,tr.length=tn:=⟨_,rfl⟩
 rw [htn] at HOF
 have HTN:=keep htn
 clear htn
 rcases can_main hm with ⟨hne,hc⟩ | ⟨he0,c,hc,hlen,hmc,hcc⟩
 ·have hne1:(e1 != 0)=true:=by simpa using hne
  rw [hc] at HCA
  clear hm hne hc
  have H1:=Lib.hid (Ok.start w)
  go_enter Tryz.func4,Tryz.ntmps4
  go_wp2_with fail
  refine (HOF.out _ (HE.out.below H1.out.bel).1).mono ?_
  rintro e w2 ⟨ta,tc,rfl,hr5,hb3⟩
  have H4:=Lib.hid ((H1.out.below hb3).add (kRowsE ta 11 ((tr.map Nd.any).map aRow)) hr5)
  clear hb3 hr5 H1
  go_upto_region 4 with fail
  have H6:=Lib.hid (H4.out.var w2.heap.size 31 [.bool f,.int .u8 (a:Nat),.int .i64 n1,.string ⟨t1.toArray⟩,.slice ta tn tc] rfl)
  clear H4
  generalize (w2.alloc (.cells #[.bool f,.int .u8 (a:Nat),.int .i64 n1,.string ⟨t1.toArray⟩,.slice ta tn tc] 31))=W7 at H6 ⊢
  have F8:=H6.out.sees
  simp only [sees,kVar,cellsAt,Nat.reduceAdd] at F8
  obtain ⟨⟨⟨z0,fz0⟩,c00,c01,c02,c03,c04,-⟩,-,-⟩:=F8
  go_wp2_with fail
  refine (HCA.out _ (HE.out.below H6.out.bel)).mono ?_
  rintro e w9 ⟨rfl,hb10⟩
  clear z0 fz0 c00 c01 c02 c03 c04
  have H11:=Lib.hid (H6.out.below hb10)
  clear hb10 H6
  have F12:=H11.out.sees
  simp only [sees,kVar,cellsAt,Nat.reduceAdd] at F12
  obtain ⟨⟨⟨z0,fz0⟩,c00,c01,c02,c03,c04,-⟩,-,-⟩:=F12
  go_wp2_with fail
  refine (HKN.out _ (HE.out.below H11.out.bel)).mono ?_
  rintro e w13 ⟨rfl,hb14⟩
  clear z0 fz0 c00 c01 c02 c03 c04
  have H15:=Lib.hid (H11.out.below hb14)
  clear hb14 H11
  go_wp2_with fail
  go_ret
  exact ⟨rfl,H15.out.bel⟩
 ·subst he0
  obtain ⟨C,hC⟩:∃ C:ByteArray,⟨c.toArray⟩=C:=⟨_,rfl⟩
  obtain ⟨hCs,hCl⟩:=size_can hC
  rw [hc] at HCA
  dsimp only at HCA
  rw [hC] at HCA
  rw [← hCl] at hmc
  have HOC:=keep (of_rows hmc)
  rw [HTN.out] at HOC
  have HCC:=keep (fun W h=>entry_Canonical C W h)
  rw [hCl,hcc] at HCC
  dsimp only at HCC
  rw [hC] at HCC
  have hls:¬ (C.size:Int)>(s.size:Int):=by rw [size_l] at hlen; omega
  have HEQ:=keep (fun (tb:Option Addr) (td:Nat) (ta:Option Addr) (tc:Nat) W ht hu=>equal_mean f f a a n1 n1 t1 t1 tr tr ta tb tc td W HS1.out HS1.out ht hu)
  rw [eqM_yes,HTN.out] at HEQ
  have HCL:=keep hCl
  have HC:=keep hc
  clear hm hc hlen hmc hcc hCs hCl hC
  have H1:=Lib.hid (Ok.start w)
  go_enter Tryz.func4,Tryz.ntmps4
  go_wp2_with fail
  refine (HOF.out _ (HE.out.below H1.out.bel).1).mono ?_
  rintro e w2 ⟨ta,tc,rfl,hr5,hb3⟩
  have H4:=Lib.hid ((H1.out.below hb3).add (kRowsE ta 11 ((tr.map Nd.any).map aRow)) hr5)
  clear hb3 hr5 H1
  go_upto_region 4 with fail
  have H6:=Lib.hid (H4.out.var w2.heap.size 31 [.bool f,.int .u8 (a:Nat),.int .i64 n1,.string ⟨t1.toArray⟩,.slice ta tn tc] rfl)
  clear H4
  generalize (w2.alloc (.cells #[.bool f,.int .u8 (a:Nat),.int .i64 n1,.string ⟨t1.toArray⟩,.slice ta tn tc] 31))=W7 at H6 ⊢
  have F8:=H6.out.sees
  simp only [sees,kVar,cellsAt,Nat.reduceAdd] at F8
  obtain ⟨⟨⟨z0,fz0⟩,c00,c01,c02,c03,c04,-⟩,-,-⟩:=F8
  go_wp2_with fail
  refine (HCA.out _ (HE.out.below H6.out.bel)).mono ?_
  rintro e w9 ⟨rfl,hb10⟩
  clear z0 fz0 c00 c01 c02 c03 c04
  have H11:=Lib.hid (H6.out.below hb10)
  clear hb10 H6
  have F12:=H11.out.sees
  simp only [sees,kVar,cellsAt,Nat.reduceAdd] at F12
  obtain ⟨⟨⟨z0,fz0⟩,c00,c01,c02,c03,c04,-⟩,-,-⟩:=F12
  go_wp2_with fail
  refine (HOC.out _ (HE.out.below H11.out.bel).1).mono ?_
  rintro e w13 ⟨tb,td,rfl,hr16,hb14⟩
  clear z0 fz0 c00 c01 c02 c03 c04
  have H15:=Lib.hid ((H11.out.below hb14).add (kRowsE tb 11 ((tr.map Nd.any).map aRow)) hr16)
  clear hb14 hr16 H11
  have F17:=H15.out.sees
  simp only [sees,kVar,cellsAt,Nat.reduceAdd] at F17
  obtain ⟨-,⟨⟨z1,fz1⟩,c10,c11,c12,c13,c14,-⟩,-,-⟩:=F17
  go_upto_region 10 with fail
  have y18:=z1
  clear z1 fz1 c10 c11 c12 c13 c14
  have H19:=Lib.hid (H15.out.var w13.heap.size 31 [.bool f,.int .u8 (a:Nat),.int .i64 n1,.string ⟨t1.toArray⟩,.slice tb tn td] rfl)
  clear H15
  generalize (w13.alloc (.cells #[.bool f,.int .u8 (a:Nat),.int .i64 n1,.string ⟨t1.toArray⟩,.slice tb tn td] 31))=W20 at H19 ⊢
  have F21:=H19.out.sees
  simp only [sees,kVar,cellsAt,Nat.reduceAdd] at F21
  obtain ⟨⟨⟨z0,fz0⟩,c00,c01,c02,c03,c04,-⟩,-,⟨⟨z2,fz2⟩,c20,c21,c22,c23,c24,-⟩,-,-⟩:=F21
  go_wp2_with fail
  refine (HCC.out _ (HE.out.below H19.out.bel)).mono ?_
  rintro e w22 ⟨rfl,hb23⟩
  clear z0 fz0 c00 c01 c02 c03 c04 z2 fz2 c20 c21 c22 c23 c24
  have H24:=Lib.hid (H19.out.below hb23)
  clear hb23 H19
  have F25:=H24.out.sees
  simp only [sees,kVar,cellsAt,Nat.reduceAdd] at F25
  obtain ⟨⟨⟨z0,fz0⟩,c00,c01,c02,c03,c04,-⟩,-,⟨⟨z2,fz2⟩,c20,c21,c22,c23,c24,-⟩,-,-⟩:=F25
  go_wp2_with fail
  refine (HEQ.out tb td ta tc _ (H24.out.get (kRowsE ta 11 ((tr.map Nd.any).map aRow)) (by simp)) (H24.out.get (kRowsE tb 11 ((tr.map Nd.any).map aRow)) (by simp))).mono ?_
  rintro e w26 ⟨rfl,hb27⟩
  clear z0 fz0 c00 c01 c02 c03 c04 z2 fz2 c20 c21 c22 c23 c24
  have H28:=Lib.hid (H24.out.below hb27)
  clear hb27 H24
  have F29:=H28.out.sees
  simp only [sees,kVar,cellsAt,Nat.reduceAdd] at F29
  obtain ⟨⟨⟨z0,fz0⟩,c00,c01,c02,c03,c04,-⟩,-,⟨⟨z2,fz2⟩,c20,c21,c22,c23,c24,-⟩,-,-⟩:=F29
  go_upto_region 13 with fail
  obtain ⟨⟨⟨g,⟨b,n2,t2⟩,us⟩,at2,e2⟩,ht⟩:∃ R,meanS t.data.toList=R:=⟨_,rfl⟩
  have HOT:=keep (of_rows ht)
  have HCT:=keep (fun W h=>entry_Canonical t W h)
  have HS2:=keep (tree_small ht)
  obtain ⟨un,hun⟩:∃ un,us.length=un:=⟨_,rfl⟩
  rw [hun] at HOT
  have HUN:=keep hun
  clear hun
  rcases can_main ht with ⟨hne,hx⟩ | ⟨he0,x,hx,-,-,-⟩
  ·have hne1:(e2 != 0)=true:=by simpa using hne
   rw [hx] at HCT
   clear ht hne hx
   go_wp2_with fail
   refine (HOT.out _ (HE.out.below H28.out.bel).1).mono ?_
   rintro e w30 ⟨tx,ty,rfl,hr33,hb31⟩
   clear z0 fz0 c00 c01 c02 c03 c04 z2 fz2 c20 c21 c22 c23 c24
   have H32:=Lib.hid ((H28.out.below hb31).add (kRowsE tx 11 ((us.map Nd.any).map aRow)) hr33)
   clear hb31 hr33 H28
   have F34:=H32.out.sees
   simp only [sees,kVar,cellsAt,Nat.reduceAdd] at F34
   obtain ⟨-,⟨⟨z1,fz1⟩,c10,c11,c12,c13,c14,-⟩,-,⟨⟨z3,fz3⟩,c30,c31,c32,c33,c34,-⟩,-,-⟩:=F34
   go_upto_region 14 with fail
   have y35:=z1
   have y36:=z3
   clear z1 fz1 c10 c11 c12 c13 c14 z3 fz3 c30 c31 c32 c33 c34
   have H37:=Lib.hid (H32.out.var w30.heap.size 31 [.bool g,.int .u8 (b:Nat),.int .i64 n2,.string ⟨t2.toArray⟩,.slice tx un ty] rfl)
   clear H32
   generalize (w30.alloc (.cells #[.bool g,.int .u8 (b:Nat),.int .i64 n2,.string ⟨t2.toArray⟩,.slice tx un ty] 31))=W38 at H37 ⊢
   have F39:=H37.out.sees
   simp only [sees,kVar,cellsAt,Nat.reduceAdd] at F39
   obtain ⟨⟨⟨z0,fz0⟩,c00,c01,c02,c03,c04,-⟩,-,⟨⟨z2,fz2⟩,c20,c21,c22,c23,c24,-⟩,-,⟨⟨z4,fz4⟩,c40,c41,c42,c43,c44,-⟩,-,-⟩:=F39
   go_wp2_with fail
   refine (HCT.out _ (HE.out.below H37.out.bel)).mono ?_
   rintro e w40 ⟨rfl,hb41⟩
   clear z0 fz0 c00 c01 c02 c03 c04 z2 fz2 c20 c21 c22 c23 c24 z4 fz4 c40 c41 c42 c43 c44
   have H42:=Lib.hid (H37.out.below hb41)
   clear hb41 H37
   have F43:=H42.out.sees
   simp only [sees,kVar,cellsAt,Nat.reduceAdd] at F43
   obtain ⟨⟨⟨z0,fz0⟩,c00,c01,c02,c03,c04,-⟩,-,⟨⟨z2,fz2⟩,c20,c21,c22,c23,c24,-⟩,-,⟨⟨z4,fz4⟩,c40,c41,c42,c43,c44,-⟩,-,-⟩:=F43
   go_wp2_with fail
   refine (HKN.out _ (HE.out.below H42.out.bel)).mono ?_
   rintro e w44 ⟨rfl,hb45⟩
   clear z0 fz0 c00 c01 c02 c03 c04 z2 fz2 c20 c21 c22 c23 c24 z4 fz4 c40 c41 c42 c43 c44
   have H46:=Lib.hid (H42.out.below hb45)
   clear hb45 H42
   go_wp2_with fail
   go_ret
   exact ⟨rfl,H46.out.bel⟩
  ·subst he0
   obtain ⟨X,hX⟩:∃ X:ByteArray,⟨x.toArray⟩=X:=⟨_,rfl⟩
   obtain ⟨-,hXl⟩:=size_can hX
   have hsame:=can_same HM.out ht HC.out hx
   rw [hx] at HCT
   dsimp only at HCT
   rw [hX] at HCT
   obtain ⟨B,hB⟩:∃ B,eqM ⟨f,(a,n1,t1),tr⟩ ⟨g,(b,n2,t2),us⟩=B:=⟨_,rfl⟩
   have HEM:=keep (fun (tb:Option Addr) (td:Nat) (ta:Option Addr) (tc:Nat) W hr hu=>equal_mean f g a b n1 n2 t1 t2 tr us ta tb tc td W HS1.out HS2.out hr hu)
   rw [hB,HTN.out,HUN.out] at HEM
   have hXC:(X.toList == C.toList)=B:=by
    rw [← hB,Bool.eq_iff_iff,beq_iff_eq,toL,toL,hXl,HCL.out]
    rw [eqM_iff,← hsame]
    exact ⟨fun h=>h.symm,fun h=>h.symm⟩
   clear ht hx hX hXl hsame hB
   go_wp2_with fail
   refine (HOT.out _ (HE.out.below H28.out.bel).1).mono ?_
   rintro e w30 ⟨tx,ty,rfl,hr33,hb31⟩
   clear z0 fz0 c00 c01 c02 c03 c04 z2 fz2 c20 c21 c22 c23 c24
   have H32:=Lib.hid ((H28.out.below hb31).add (kRowsE tx 11 ((us.map Nd.any).map aRow)) hr33)
   clear hb31 hr33 H28
   have F34:=H32.out.sees
   simp only [sees,kVar,cellsAt,Nat.reduceAdd] at F34
   obtain ⟨-,⟨⟨z1,fz1⟩,c10,c11,c12,c13,c14,-⟩,-,⟨⟨z3,fz3⟩,c30,c31,c32,c33,c34,-⟩,-,-⟩:=F34
   go_upto_region 14 with fail
   have y35:=z1
   have y36:=z3
   clear z1 fz1 c10 c11 c12 c13 c14 z3 fz3 c30 c31 c32 c33 c34
   have H37:=Lib.hid (H32.out.var w30.heap.size 31 [.bool g,.int .u8 (b:Nat),.int .i64 n2,.string ⟨t2.toArray⟩,.slice tx un ty] rfl)
   clear H32
   generalize (w30.alloc (.cells #[.bool g,.int .u8 (b:Nat),.int .i64 n2,.string ⟨t2.toArray⟩,.slice tx un ty] 31))=W38 at H37 ⊢
   have F39:=H37.out.sees
   simp only [sees,kVar,cellsAt,Nat.reduceAdd] at F39
   obtain ⟨⟨⟨z0,fz0⟩,c00,c01,c02,c03,c04,-⟩,-,⟨⟨z2,fz2⟩,c20,c21,c22,c23,c24,-⟩,-,⟨⟨z4,fz4⟩,c40,c41,c42,c43,c44,-⟩,-,-⟩:=F39
   go_wp2_with fail
   refine (HCT.out _ (HE.out.below H37.out.bel)).mono ?_
   rintro e w40 ⟨rfl,hb41⟩
   clear z0 fz0 c00 c01 c02 c03 c04 z2 fz2 c20 c21 c22 c23 c24 z4 fz4 c40 c41 c42 c43 c44
   have H42:=Lib.hid (H37.out.below hb41)
   clear hb41 H37
   have F43:=H42.out.sees
   simp only [sees,kVar,cellsAt,Nat.reduceAdd] at F43
   obtain ⟨⟨⟨z0,fz0⟩,c00,c01,c02,c03,c04,-⟩,-,⟨⟨z2,fz2⟩,c20,c21,c22,c23,c24,-⟩,-,⟨⟨z4,fz4⟩,c40,c41,c42,c43,c44,-⟩,-,-⟩:=F43
   go_wp2_with fail
   refine (HEM.out tx ty ta tc _ (H42.out.get (kRowsE ta 11 ((tr.map Nd.any).map aRow)) (by simp)) (H42.out.get (kRowsE tx 11 ((us.map Nd.any).map aRow)) (by simp))).mono ?_
   rintro e w44 ⟨rfl,hb45⟩
   clear z0 fz0 c00 c01 c02 c03 c04 z2 fz2 c20 c21 c22 c23 c24 z4 fz4 c40 c41 c42 c43 c44
   have H46:=Lib.hid (H42.out.below hb45)
   clear hb45 H42
   have F47:=H46.out.sees
   simp only [sees,kVar,cellsAt,Nat.reduceAdd] at F47
   obtain ⟨⟨⟨z0,fz0⟩,c00,c01,c02,c03,c04,-⟩,-,⟨⟨z2,fz2⟩,c20,c21,c22,c23,c24,-⟩,-,⟨⟨z4,fz4⟩,c40,c41,c42,c43,c44,-⟩,-,-⟩:=F47
   go_wp2_with fail
   refine (HKN.out _ (HE.out.below H46.out.bel)).mono ?_
   rintro e w48 ⟨rfl,hb49⟩
   clear z0 fz0 c00 c01 c02 c03 c04 z2 fz2 c20 c21 c22 c23 c24 z4 fz4 c40 c41 c42 c43 c44
   have H50:=Lib.hid (H46.out.below hb49)
   clear hb49 H46
   go_wp2_with fail
   go_ret
   exact ⟨rfl,H50.out.bel⟩
theorem EntryCanonical_walk (s t:ByteArray) (w:World) (_h1:s.size≤maxLen) (_h2:t.size≤maxLen) (hL:laidMetH Tryz.prog Rows.entryCanonicalRow.laid w) (hS:w.ShapedOpen Tryz.prog) :
  Calls Tryz.prog 4 #[.string s,.string t] w fun e w'=>e=.returned (.bool true)∧Below w.heap.size w w' :=
 law_EntryCanonical s t w (env10_of hL hS (by kernel_rfl) (by kernel_rfl))
