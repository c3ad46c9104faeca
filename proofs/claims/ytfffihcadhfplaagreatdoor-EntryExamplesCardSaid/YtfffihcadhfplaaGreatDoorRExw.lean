/- The own part of EntryExamples beyond the base that the claims of the seat share. -/
import Derived.Test.YtfffihcadhfplaaGreatDoorRows
import Derived.WalkKit
import Derived.WalkSpells
import Derived.WalkLawsBesides
import Derived.Lib.Hide
import Derived.Deep.Slices
import Derived.Deep.Fields
import Derived.ChangeSame
import Derived.Lib.LaidTab
import Derived.Laws.OwnMore
import Derived.Deep.Draws
import Derived.Laws.Rows
import Derived.Deep.OwnRows
import Derived.Test.YtfffihcadhfplaaGreatDoorQShelf
import Derived.Deep.RegionHeld3
import Derived.Deep.AppendLies
import Derived.Deep.Onto
import Derived.Test.YtfffihcadhfplaaGreatDoorQAddrP
import Derived.Deep.RegionHeld
import Derived.Test.YtfffihcadhfplaaGreatDoorQIterV
import Derived.Lib.ItoaNum
import Derived.Test.YtfffihcadhfplaaGreatDoorQLexP
import Derived.Deep.DeepCutAuto
import Derived.Stop.LaidErr
import Derived.LaidLaws
import Derived.LaidSub
import Derived.Test.YtfffihcadhfplaaGreatDoorQVal
import Derived.WideMake
import Derived.Carry
import Derived.RangeFuncNested
import Derived.RangeFuncBound
import Derived.RangeFuncCalls
import Derived.RangeFuncLeaves
import Derived.RangeFuncBox
import Derived.Shelf.Abstract
import Derived.OwnWalkIn
import Derived.TacticsInMore
import Derived.LoopNIn
import Derived.LoopIn
import Derived.Maps.AppendAt
import Derived.IntWalk
import Derived.Laws.IdiomStrings
import Derived.Lib.Strings
import Derived.Test.YtfffihcadhfplaaGreatDoorQLexC
import Derived.Laws.RangeString
import Derived.Laws.RangeAny
import Derived.Laws.BytesArg
import Derived.Lib.BufferRead
import Derived.WalkMore
import Derived.Test.YtfffihcadhfplaaGreatDoorQLexI
import Derived.Lib.IndexBytes
import Derived.Test.YtfffihcadhfplaaGreatDoorQLexD
import Derived.Test.YtfffihcadhfplaaGreatDoorQLexG
import Derived.Test.YtfffihcadhfplaaGreatDoorQLexJ
import Derived.Laws.Strings3
import Derived.Test.YtfffihcadhfplaaGreatDoorQLexK
import Derived.Lib.SmallJoins
import Derived.Shelf.Strings.Cut
import Derived.Shelf.Strings.Search2
import Derived.Shelf.Strconv.Itoa3
import Derived.Lib.AppendIntMem
import Derived.BigRegion
import Derived.Test.YtfffihcadhfplaaGreatDoorQAddP6
import Derived.Deep.LoopGhost
import Derived.Test.YtfffihcadhfplaaGreatDoorQLexM
import Derived.Laws.EntriesVeiled
import Derived.Test.YtfffihcadhfplaaGreatDoorQLexN
import Derived.Test.YtfffihcadhfplaaGreatDoorQParP
import Derived.Test.YtfffihcadhfplaaGreatDoorQParA
import Derived.Test.YtfffihcadhfplaaGreatDoorQParB
import Derived.Test.YtfffihcadhfplaaGreatDoorQTreA
import Derived.Shelf.Strings.Builder1
import Derived.Shelf.Strings.Builder2
import Derived.Shelf.Strings.OnBuilder
import Derived.Shelf.Small.Wraps
import Derived.Shelf.Strings.BuilderF
import Derived.Shelf.Strings.BuilderK
import Derived.Shelf.Utf8.RuneCount
import Derived.Shelf.Strings.Builder2Cap
import Derived.Shelf.Strconv.Itoa0
import Derived.Shelf.Strconv.Itoa1
import Derived.Shelf.LaysM
import Derived.Shelf.Strconv.Itoa2
import Derived.Shelf.Strings.Search1
import Derived.Shelf.Strings.Search3
import Derived.Shelf.Strings.Count
import Derived.Shelf.Strings.Shaped
import Derived.Shelf.GgClosure.StringsIndexFunc
import Derived.Ground.GgwProg
import Derived.Shelf.GgClosure.StringsIndexFuncTop
import Derived.Shelf.GgClosure.StringsRunes
import Derived.Shelf.Strings.Prefix
import Derived.Shelf.Strings.Split
import Derived.Shelf.Strings.Replace
import Derived.Shelf.Strings.SplitShaped
import Derived.Shelf.Unicode.Decode
import Derived.Shelf.Strings.RuneCount
import Derived.Shelf.Unicode.DecodeSlow
import Derived.Shelf.Unicode.DecodeAny
import Derived.Shelf.Strings.FuncGrows
import Derived.Shelf.Strings.BuilderCap
import Derived.Shelf.Slices.Turned
import Derived.Test.YtfffihcadhfplaaGreatDoorProg
import Derived.Lib.Replace
import Derived.Test.YtfffihcadhfplaaGreatDoorQLexO
import Derived.Laws.StructEq
import Derived.Test.YtfffihcadhfplaaGreatDoorQEqV
import Derived.Lib.AppendStr
import Derived.Test.YtfffihcadhfplaaGreatDoorQDecF
import Derived.Test.YtfffihcadhfplaaGreatDoorQShw
import Derived.Test.YtfffihcadhfplaaGreatDoorQEvb
import Derived.Test.YtfffihcadhfplaaGreatDoorQEvc
import Derived.Test.YtfffihcadhfplaaGreatDoorQEna
import Derived.Test.YtfffihcadhfplaaGreatDoorQDpV
import Derived.Test.YtfffihcadhfplaaGreatDoorQEnb
import Derived.Test.YtfffihcadhfplaaGreatDoorQParK
import Derived.Test.YtfffihcadhfplaaGreatDoorQTreB
import Derived.Defers
import Derived.Recover
import Derived.Test.YtfffihcadhfplaaGreatDoorQParE
import Derived.Test.YtfffihcadhfplaaGreatDoorQParF
import Derived.Test.YtfffihcadhfplaaGreatDoorQParG
import Derived.Test.YtfffihcadhfplaaGreatDoorQParH
import Derived.Test.YtfffihcadhfplaaGreatDoorQParI
import Derived.Test.YtfffihcadhfplaaGreatDoorQGiv
import Derived.Test.YtfffihcadhfplaaGreatDoorQSgn
import Derived.Test.YtfffihcadhfplaaGreatDoorQNdF
import Derived.Test.YtfffihcadhfplaaGreatDoorQDcB
import Derived.Test.YtfffihcadhfplaaGreatDoorQTwk
import Derived.Test.YtfffihcadhfplaaGreatDoorQShn
import Derived.Test.YtfffihcadhfplaaGreatDoorQForB
import Derived.Test.YtfffihcadhfplaaGreatDoorQEnc
import Derived.Test.YtfffihcadhfplaaGreatDoorQEnd
import Derived.OpenShut
import Derived.Test.YtfffihcadhfplaaGreatDoorQLit
import Derived.Test.YtfffihcadhfplaaGreatDoorQTxt
import Derived.Test.YtfffihcadhfplaaGreatDoorQTxu
import Derived.Test.YtfffihcadhfplaaGreatDoorQTxv
import Derived.Lib.Repeat
import Derived.Test.YtfffihcadhfplaaGreatDoorQEbp
import Derived.ChangeArms
import Derived.Test.YtfffihcadhfplaaGreatDoorQNdG
import Derived.Test.YtfffihcadhfplaaGreatDoorQEng
namespace Go.Proofs.YtfffihcadhfplaaGreatDoor
open Go.RowKit
def exV:List (List UInt8×Vl):=[([],(0,0,[])),([39,61,65,49],(3,0,[61,65,49])),([116,114,117,101],(2,1,[])),([35,110,47,97],(4,4,[])),([35,68,69,78,73,69,68],(3,0,[35,68,69,78,73,69,68])),([35,67,89,67,76,69,33],(3,0,[35,67,89,67,76,69,33])),([35,114,101,102,33],(4,5,[])),([49,46,53,48],(1,15000,[])),([32,53],(3,0,[32,53])),([57,57,57,57,57,57,57,57,57,57,57,57,57,57,57,57,57,57,57,57],(4,3,[])),([39],(3,0,[])),([45],(3,0,[45])),([39,84,82,85,69],(3,0,[84,82,85,69]))]
def exF:List (List UInt8×Int×Int):=[([61,49,43],3,4),([61],1,4),([61,70,79,79,40,49,41],1,10),([9],0,4),([97,127],1,4),(List.replicate 257 120,0,5)]
def exC:List (List UInt8×List UInt8):=[([61,32,115,117,109,40,32,97,49,32,44,32,98,50,58,65,49,32,41],[61,83,85,77,40,65,49,44,65,49,58,66,50,41]),([48,48,55,46,49,48],[55,46,49]),([39,120],[120]),([39,53],[39,53]),([],[]),([39],[39]),([45,48],[48])]
theorem exV_ok:∀ p∈exV,meanS p.1=(⟨false,p.2,[]⟩,0,0):=by
 intro p hp
 simp only [exV,List.mem_cons,List.not_mem_nil,or_false] at hp
 rcases hp with rfl | rfl | rfl | rfl | rfl | rfl | rfl | rfl | rfl | rfl | rfl | rfl | rfl <;> (rw [mean_const (by decide) (by decide) (by decide)]; kernel_rfl)
theorem exF_ok:∀ p∈exF,meanS p.1=(Mn.none,p.2.1,p.2.2):=by
 intro p hp
 simp only [exF,List.mem_cons,List.not_mem_nil,or_false] at hp
 rcases hp with rfl | rfl | rfl | rfl | rfl | rfl
 ·have h:formS [49,43]=([],2,4):=by kernel_rfl
  rw [mean_fault (by decide) (by decide) rfl (by rw [show ([61,49,43]:List UInt8).tail=[49,43] from rfl,h]; decide),show ([61,49,43]:List UInt8).tail=[49,43] from rfl,h]
  rfl
 ·have h:formS []=([],0,4):=by kernel_rfl
  rw [mean_fault (by decide) (by decide) rfl (by rw [show ([61]:List UInt8).tail=[] from rfl,h]; decide),show ([61]:List UInt8).tail=[] from rfl,h]
  rfl
 ·have h:formS [70,79,79,40,49,41]=([],0,10):=by kernel_rfl
  rw [mean_fault (by decide) (by decide) rfl (by rw [show ([61,70,79,79,40,49,41]:List UInt8).tail=[70,79,79,40,49,41] from rfl,h]; decide),show ([61,70,79,79,40,49,41]:List UInt8).tail=[70,79,79,40,49,41] from rfl,h]
  rfl
 ·exact mean_byte (k:=0) (by decide) (by decide) (by decide) (by decide)
 ·exact mean_byte (k:=1) (by decide) (by decide) (by decide) (by decide)
 ·exact mean_long (by rw [List.length_replicate]; decide)
theorem no_cst {k:Nat} {n:Int} {t:List UInt8} (hv:valE k n t=0) (h4:¬ (k=4∧n=6)):¬ (valE k n t≠0∨(k=4∧n=6)):=by
 rintro (g | g)
 ·exact g hv
 ·exact h4 g
theorem can_val {l c:List UInt8} {k:Nat} {n:Int} {t:List UInt8} (h:meanS l=(⟨false,(k,n,t),[]⟩,0,0)) (hv:valE k n t=0) (h4:¬ (k=4∧n=6)) (hc:markS k (showV k n t)=c) (hl:c.length≤256):canS l=(c,0):=by
 rw [can_const h rfl]
 show constC k n t=_
 rw [cst_ok (no_cst hv h4) (by rw [hc]; omega),hc]
theorem cell_text {t:List UInt8} (h:checkT t=0):valE 3 0 t=0:=valE_yes (.inr (.inr (.inr (.inl ⟨rfl,rfl,h⟩))))
theorem cell_num {n:Int} (h:n≠-9223372036854775808):valE 1 n []=0:=valE_yes (.inr (.inl ⟨rfl,rfl,h⟩))
theorem exC_ok:∀ p∈exC,canS p.1=(p.2,0):=by
 intro p hp
 simp only [exC,List.mem_cons,List.not_mem_nil,or_false] at hp
 rcases hp with rfl | rfl | rfl | rfl | rfl | rfl | rfl
 ·have h:formS [32,115,117,109,40,32,97,49,32,44,32,98,50,58,65,49,32,41]=((formS [32,115,117,109,40,32,97,49,32,44,32,98,50,58,65,49,32,41]).1,0,0):=by kernel_rfl
  obtain ⟨-,hck,-,-,-,-⟩:=form_good h
  have hm:meanS [61,32,115,117,109,40,32,97,49,32,44,32,98,50,58,65,49,32,41]=(⟨true,(0,0,[]),(formS [32,115,117,109,40,32,97,49,32,44,32,98,50,58,65,49,32,41]).1⟩,0,0):=by
   rw [mean_form (by decide) (by decide) rfl (by rw [show ([61,32,115,117,109,40,32,97,49,32,44,32,98,50,58,65,49,32,41]:List UInt8).tail=[32,115,117,109,40,32,97,49,32,44,32,98,50,58,65,49,32,41] from rfl,h])]
   rfl
  have hs:showT (((formS [32,115,117,109,40,32,97,49,32,44,32,98,50,58,65,49,32,41]).1.map Nd.any).map NdA.nd)=[83,85,77,40,65,49,44,65,49,58,66,50,41]:=by rw [map_any]; kernel_rfl
  have hf:showF ((formS [32,115,117,109,40,32,97,49,32,44,32,98,50,58,65,49,32,41]).1.map Nd.any)=([83,85,77,40,65,49,44,65,49,58,66,50,41],0):=by rw [showF_ok hck (by rw [hs]; decide),hs]
  rw [can_form hm rfl (by show (showF ((formS [32,115,117,109,40,32,97,49,32,44,32,98,50,58,65,49,32,41]).1.map Nd.any)).2=0; rw [hf])]
  show (61::(showF ((formS [32,115,117,109,40,32,97,49,32,44,32,98,50,58,65,49,32,41]).1.map Nd.any)).1,_)=_
  rw [hf]
 ·exact can_val (k:=1) (n:=71000) (t:=[]) (by rw [mean_const (by decide) (by decide) (by decide)]; kernel_rfl) (cell_num (by decide)) (by decide) (by kernel_rfl) (by decide)
 ·exact can_val (k:=3) (n:=0) (t:=[120]) (by rw [mean_const (by decide) (by decide) (by decide)]; kernel_rfl) (cell_text (by decide)) (by decide) (by kernel_rfl) (by decide)
 ·exact can_val (k:=3) (n:=0) (t:=[53]) (by rw [mean_const (by decide) (by decide) (by decide)]; kernel_rfl) (cell_text (by decide)) (by decide) (by kernel_rfl) (by decide)
 ·exact can_val (k:=0) (n:=0) (t:=[]) (by rw [mean_const (by decide) (by decide) (by decide)]; kernel_rfl) (valE_yes (.inl ⟨rfl,rfl,rfl⟩)) (by decide) (by kernel_rfl) (by decide)
 ·exact can_val (k:=3) (n:=0) (t:=[]) (by rw [mean_const (by decide) (by decide) (by decide)]; kernel_rfl) (cell_text (by decide)) (by decide) (by kernel_rfl) (by decide)
 ·exact can_val (k:=1) (n:=0) (t:=[]) (by rw [mean_const (by decide) (by decide) (by decide)]; kernel_rfl) (cell_num (by decide)) (by decide) (by kernel_rfl) (by decide)
theorem chk_rep (n:Nat) (b:UInt8) (hn:n≤256) (hb:plainB b=true):checkT (List.replicate n b)=0:=chk_of (by rw [List.length_replicate]; exact hn) (List.all_eq_true.2 fun x hx=>by rw [(List.mem_replicate.1 hx).2]; exact hb)
theorem cst_5:constC 3 0 [53]=([39,53],0):=by
 have e:markS 3 (showV 3 0 [53])=[39,53]:=by kernel_rfl
 rw [cst_ok (no_cst (cell_text (by decide)) (by decide)) (by rw [e]; decide),e]
theorem cst_nil:constC 3 0 []=([39],0):=by
 have e:markS 3 (showV 3 0 [])=[39]:=by kernel_rfl
 rw [cst_ok (no_cst (cell_text (by decide)) (by decide)) (by rw [e]; decide),e]
theorem cst_eqs:constC 3 0 (List.replicate 256 61)=([],5):=by
 have hb:markB (List.replicate 256 61)=true:=by
  unfold markB
  have h1:¬ 256<(List.replicate 256 (61:UInt8)).length:=by rw [List.length_replicate]; decide
  have h2:(List.replicate 256 (61:UInt8)).all plainB=true:=chk_plain (chk_rep 256 61 (Nat.le_refl _) (by decide))
  by_cases h:(formS (List.replicate 256 (61:UInt8)).tail).2.2=0
  ·rw [mean_form h1 h2 rfl h]; rfl
  ·rw [mean_fault h1 h2 rfl h,decide_eq_true h]; rfl
 have e:markS 3 (showV 3 0 (List.replicate 256 61))=39::List.replicate 256 61:=by
  show markS 3 (List.replicate 256 61)=_
  unfold markS
  rw [if_pos ⟨rfl,hb⟩]
 rw [cst_long (no_cst (cell_text (chk_rep 256 61 (Nat.le_refl _) (by decide))) (by decide)) (by rw [e,List.length_cons,List.length_replicate]; decide)]
theorem cst_xs:constC 3 0 (List.replicate 256 120)=(List.replicate 256 120,0):=by
 have e:markS 3 (showV 3 0 (List.replicate 256 120))=List.replicate 256 120:=by kernel_rfl
 rw [cst_ok (no_cst (cell_text (chk_rep 256 120 (Nat.le_refl _) (by decide))) (by decide)) (by rw [e,List.length_replicate]; decide),e]
theorem cst_den:constC 4 7 []=([],2):=cst_bad (.inl (by
 rw [valE_no]
 ·decide
 ·rintro (⟨h,-⟩ | ⟨h,-⟩ | ⟨h,-⟩ | ⟨h,-⟩ | ⟨-,-,-,h⟩)
  all_goals revert h; decide))
theorem cst_cyc:constC 4 6 []=([],2):=cst_bad (.inr ⟨rfl,rfl⟩)
theorem form_a1:formS [65,49,43,49]=(kwT,0,0):=by kernel_rfl
theorem mean_a1:meanS [61,65,49,43,49]=(⟨true,(0,0,[]),kwT⟩,0,0):=by
 rw [mean_form (by decide) (by decide) rfl (by show (formS [65,49,43,49]).2.2=0; rw [form_a1])]
 show (_,_,_)=_
 rw [show [61,65,49,43,49].tail=([65,49,43,49]:List UInt8) from rfl,form_a1]
theorem chk_1:chkE [⟨1,1,[53]⟩,⟨2,1,[61]⟩]=(1,4):=by kernel_rfl
theorem chk_2:chkE [⟨1,1,[53]⟩,⟨1,1,[53]⟩]=(1,12):=by kernel_rfl
theorem chk_3:chkE [⟨1,1,[]⟩]=(0,2):=by kernel_rfl
theorem chk_4:chkE [⟨0,0,[53]⟩]=(0,3):=by kernel_rfl
theorem chk_5:chkE [⟨1,1,[53]⟩,⟨2,1,[54]⟩]=(0,0):=by kernel_rfl
set_option maxRecDepth 100000
set_option maxHeartbeats 8000000
theorem law_text (s:ByteArray) (w:World) :
  Calls Tryz.prog 16 #[.string s] w fun e w'=>e=.returned (.agg #[.int .u8 3,.int .i64 0,.string s])∧Below w.heap.size w w':=by
 have H1:=Lib.hid ((Ok.start w).var w.heap.size 23 [.int .u8 3,.int .i64 0,.string s] rfl)
 go_enter Tryz.func16,Tryz.ntmps16
 go_wp2_with fail
 generalize (w.alloc (.cells #[.int .u8 3,.int .i64 0,.string s] 23))=W2 at H1 ⊢
 have hK:=H1.out.get (kVar (w.heap.size) 23 [.int .u8 3,.int .i64 0,.string s]) (by simp)
 have hE:=(show Blk W2 (w.heap.size) 23 _ from hK)
 have r0:=hE.cell 0
 have r1:=hE.cell 1
 have r2:=hE.cell 2
 simp at r0 r1 r2
 exact bodyPost_ret (v:=.agg #[.int .u8 3,.int .i64 0,.string s]) (by simp [results,Tryz.results16,go_sem,r0,r1,r2]) rfl ⟨rfl,H1.out.bel⟩
theorem rows_blk {α:Type} (f:α→List Value) {s:Nat} (hf:∀ x,(f x).length=s) {w:World} {b:Nat} {e:TypeId} {l:List α} (h:Blk w b e (l.flatMap f).toArray):RowsAt w (some ⟨b,0,none⟩) s (l.map f):=by
 intro _
 refine ⟨b,0,rfl,h.lt,fun i r hi j v hj => ?_⟩
 rw [List.getElem?_map] at hi
 obtain ⟨x,hx,rfl⟩:=Option.map_eq_some_iff.1 hi
 rw [h.cell,Nat.zero_add,List.getElem?_toArray]
 exact flat_at f s hf l i x hx j v hj
theorem conv_many {w:World} {base g n:Nat} {l:List UInt8} (h:w.ownsRow base 5 1 (.slice (some ⟨g,0,none⟩) n n) n (bytesV l)) (hl:l.length=n) :
  (convert 67 9 (.slice (some ⟨g,0,none⟩) n n)).run Tryz.prog w=.ok (.string ⟨l.toArray⟩) w:=by
 have hc:=@World.ownsRow.cells _ _ _ _ _ _ _ h
 have h9:=run_convert_bytes_back w 67 9 5 ⟨g,0,none⟩ n l Tryz.underlying67 Tryz.underlying5 Tryz.underlying9 (fun j hj=>by
  exact hc rfl j _ (by simp [bytesV]; exact ⟨_,List.getElem?_eq_getElem hj,rfl⟩))
 rw [hl] at h9
 exact h9
theorem made_many (n:Nat):(madeCells (Value.int .u8 0).cells (n * 1)).toList=bytesV (List.replicate n 0):=by
 apply List.ext_getElem?
 intro i
 rw [Nat.mul_one]
 unfold madeCells bytesV
 by_cases h:i<n
 ·simp [h,Value.cells,Nat.mod_one]
 ·simp [h]
theorem bytes_set (l:List UInt8) (j:Nat) (b:UInt8):(bytesV l).set j (.int .u8 b.toNat)=bytesV (l.set j b):=by
 unfold bytesV
 rw [List.map_set]
theorem set_rep (n j:Nat) (b:UInt8) (h:j<n):(List.replicate j b++List.replicate (n - j) 0).set j b=List.replicate (j+1) b++List.replicate (n - (j+1)) 0:=by
 rw [List.set_append_right _ _ (by rw [List.length_replicate]; exact Nat.le_refl _),List.length_replicate,Nat.sub_self,show n - j=(n - (j+1))+1 by omega,List.replicate_succ,List.set_cons_zero,List.replicate_succ',List.append_assoc]
 rfl
theorem law_many (B:UInt8) (b:Int) (hB:(B.toNat:Int)=b) (n:Nat) (hn:n≤1000) (w:World) :
  Calls Tryz.prog 17 #[.int .u8 b,.int .i64 (n:Nat)] w fun e w'=>e=.returned (.string ⟨(List.replicate n B).toArray⟩)∧Below w.heap.size w w':=by
 subst hB
 obtain ⟨i0,hi0,hz0,hz1,hz2⟩:=info_parts info_u8
 obtain ⟨w2,hmk,hown,hgr⟩:=run_makeSlice_full (P:=Tryz.prog) (w:=w) w.heap.size 67 5 i0 (.int .u8 0) 1 Tryz.underlying67 hi0 hz0 hz1 .i64 .i64 n (by omega) (by rw [hz2]; omega) (by unfold maxLen; omega) (Nat.le_refl _)
 rw [made_many] at hown
 have HB:=Lib.hid (show Below w.heap.size w w2 from ⟨hgr.os,hgr.tape,hgr.output,hgr.size,fun k hk=>hgr.block k hk (by simp)⟩)
 have HO:=Lib.hid hown
 clear hi0 hz0 hz1 hz2 hown hgr
 go_enter Tryz.func17,Tryz.ntmps17
 go_wp2_with fail
 clear hmk
 obtain ⟨g,hg⟩:∃ g,w.heap.size=g:=⟨_,rfl⟩
 rw [hg] at HO HB ⊢
 go_loopw [6] (fun jv wr=>∃ (j:Nat),j≤n∧jv=.int .i64 (j:Int)∧Hid (wr.ownsRow g 5 1 (.slice (some ⟨g,0,none⟩) n n) n (bytesV (List.replicate j B++List.replicate (n - j) 0)))∧Hid (Below g w wr)) (fun jv _=>n - (intOf jv).toNat)
 case atStart=>exact ⟨0,Nat.zero_le _,rfl,HO,HB⟩
 case round =>
  clear HO HB
  obtain ⟨j,hj,rfl,HO,HB⟩:=hrel
  obtain ⟨wy,rfl⟩:∃ wy:World,wy=wr:=⟨_,rfl⟩
  by_cases hjl:(j:Int)<(n:Int)
  ·have hj2:j<n:=by omega
   have hc:=HO.out.cellAt j (by omega)
   have hlb:(bytesV (List.replicate j B++List.replicate (n - j) 0))[j]?=some (.int .u8 0):=by
    unfold bytesV
    rw [List.getElem?_map,List.getElem?_append_right (by rw [List.length_replicate]; exact Nat.le_refl _),List.length_replicate,Nat.sub_self,show n - j=(n - j - 1)+1 by omega,List.replicate_succ]
    rfl
   rw [hlb] at hc
   have hfz:=HO.out.frozenAt j
   have HO2:=Lib.hid (show (wy.setCell ⟨g,j,none⟩ (.int .u8 B.toNat)).ownsRow g 5 1 (.slice (some ⟨g,0,none⟩) n n) n (bytesV (List.replicate (j+1) B++List.replicate (n - (j+1)) 0)) by rw [← set_rep n j B hj2,← bytes_set]; exact (HO.out.stored j (.int .u8 B.toNat)).1)
   have HB2:=Lib.hid (HB.out.setCell (p:=⟨g,j,none⟩) (Nat.le_refl g) (.int .u8 B.toNat))
   clear hlb HO HB
   go_wp2_with fail
   go_roundw
   case rel=>exact ⟨j+1,by omega,by go_num,HO2,HB2⟩
   case measure=>simp [intOf]; omega
  ·obtain rfl:j=n:=by omega
   rw [Nat.sub_self,List.replicate_zero,List.append_nil] at HO
   have hcv:=conv_many HO.out (by rw [List.length_replicate])
   clear hj
   go_wp2_with fail
   go_ret
   exact ⟨rfl,HB.out⟩
set_option maxRecDepth 100000
set_option maxHeartbeats 8000000
attribute [local go_sem high] eq_val
def exRow (p:List UInt8×Vl):List Value:=[.string ⟨p.1.toArray⟩,.int .u8 (p.2.1:Nat),.int .i64 p.2.2.1,.string ⟨p.2.2.2.toArray⟩]
def faRow (p:List UInt8×Int×Int):List Value:=[.string ⟨p.1.toArray⟩,.int .i64 p.2.1,.int .i64 p.2.2]
def caRow (p:List UInt8×List UInt8):List Value:=[.string ⟨p.1.toArray⟩,.string ⟨p.2.toArray⟩]
theorem cells_row {α:Type} (f:α→List Value) {s:Nat} (hf:∀ x,(f x).length=s) {w:World} {b:Nat} {t:TypeId} {l:List α} (h:Blk w b t (l.flatMap f).toArray) {i:Nat} {x:α} (hx:l[i]?=some x):(kCells b (i * s) (f x)).p w:=by
 refine ⟨h.lt,?_⟩
 have key:∀ (ds:List Value) (k:Nat),(∀ j v,ds[j]?=some v→(f x)[k+j]?=some v)→cellsFrom w b (i * s) k ds:=by
  intro ds
  induction ds with
  | nil=>intro k _; trivial
  | cons d ds ih =>
   intro k hd
   refine ⟨?_,ih (k+1) fun j v hj => ?_⟩
   ·rw [h.cell,List.getElem?_toArray]
    exact flat_at f s hf l i x hx k d (by simpa using hd 0 d rfl)
   ·rw [show k+1+j=k+(j+1) by omega]
    exact hd (j+1) v (by simpa using hj)
 exact key (f x) 0 fun j v hj=>by rw [Nat.zero_add]; exact hj
theorem exRow_eq:(#[.string ⟨#[]⟩,.int .u8 0,.int .i64 0,.string ⟨#[]⟩,.string ⟨#[39,61,65,49]⟩,.int .u8 3,.int .i64 0,.string ⟨#[61,65,49]⟩,.string ⟨#[116,114,117,101]⟩,.int .u8 2,.int .i64 1,.string ⟨#[]⟩,.string ⟨#[35,110,47,97]⟩,.int .u8 4,.int .i64 4,.string ⟨#[]⟩,.string ⟨#[35,68,69,78,73,69,68]⟩,.int .u8 3,.int .i64 0,.string ⟨#[35,68,69,78,73,69,68]⟩,.string ⟨#[35,67,89,67,76,69,33]⟩,.int .u8 3,.int .i64 0,.string ⟨#[35,67,89,67,76,69,33]⟩,.string ⟨#[35,114,101,102,33]⟩,.int .u8 4,.int .i64 5,.string ⟨#[]⟩,.string ⟨#[49,46,53,48]⟩,.int .u8 1,.int .i64 15000,.string ⟨#[]⟩,.string ⟨#[32,53]⟩,.int .u8 3,.int .i64 0,.string ⟨#[32,53]⟩,.string ⟨#[57,57,57,57,57,57,57,57,57,57,57,57,57,57,57,57,57,57,57,57]⟩,.int .u8 4,.int .i64 3,.string ⟨#[]⟩,.string ⟨#[39]⟩,.int .u8 3,.int .i64 0,.string ⟨#[]⟩,.string ⟨#[45]⟩,.int .u8 3,.int .i64 0,.string ⟨#[45]⟩,.string ⟨#[39,84,82,85,69]⟩,.int .u8 3,.int .i64 0,.string ⟨#[84,82,85,69]⟩]:Array Value)=(exV.flatMap exRow).toArray:=by kernel_rfl
theorem faRow_eq:(#[.string ⟨#[61,49,43]⟩,.int .i64 3,.int .i64 4,.string ⟨#[61]⟩,.int .i64 1,.int .i64 4,.string ⟨#[61,70,79,79,40,49,41]⟩,.int .i64 1,.int .i64 10,.string ⟨#[9]⟩,.int .i64 0,.int .i64 4,.string ⟨#[97,127]⟩,.int .i64 1,.int .i64 4,.string ⟨(List.replicate 257 120).toArray⟩,.int .i64 0,.int .i64 5]:Array Value)=(exF.flatMap faRow).toArray:=by kernel_rfl
theorem caRow_eq:(#[.string ⟨#[61,32,115,117,109,40,32,97,49,32,44,32,98,50,58,65,49,32,41]⟩,.string ⟨#[61,83,85,77,40,65,49,44,65,49,58,66,50,41]⟩,.string ⟨#[48,48,55,46,49,48]⟩,.string ⟨#[55,46,49]⟩,.string ⟨#[39,120]⟩,.string ⟨#[120]⟩,.string ⟨#[39,53]⟩,.string ⟨#[39,53]⟩,.string ⟨#[]⟩,.string ⟨#[]⟩,.string ⟨#[39]⟩,.string ⟨#[39]⟩,.string ⟨#[45,48]⟩,.string ⟨#[48]⟩]:Array Value)=(exC.flatMap caRow).toArray:=by kernel_rfl
theorem con_5 (w:World) (h:Words w):Calls Tryz.prog 9 #[.agg #[.int .u8 3,.int .i64 0,.string ⟨#[53]⟩]] w fun e w'=>e=.returned (.tuple #[.string ⟨#[39,53]⟩,.int .i64 0])∧Below w.heap.size w w':=by
 have h9:=entry_Constant 3 0 ⟨#[53]⟩ (by decide) (by decide) (by decide) w h
 rw [show (⟨#[53]⟩:ByteArray).data.toList=[53] from rfl,cst_5] at h9
 exact h9
theorem con_nil (w:World) (h:Words w):Calls Tryz.prog 9 #[.agg #[.int .u8 3,.int .i64 0,.string ⟨#[]⟩]] w fun e w'=>e=.returned (.tuple #[.string ⟨#[39]⟩,.int .i64 0])∧Below w.heap.size w w':=by
 have h9:=entry_Constant 3 0 ⟨#[]⟩ (by decide) (by decide) (by decide) w h
 rw [show (⟨#[]⟩:ByteArray).data.toList=[] from rfl,cst_nil] at h9
 exact h9
theorem con_eqs (w:World) (h:Words w):Calls Tryz.prog 9 #[.agg #[.int .u8 3,.int .i64 0,.string ⟨(List.replicate 256 61).toArray⟩]] w fun e w'=>e=.returned (.tuple #[.string ⟨#[]⟩,.int .i64 5])∧Below w.heap.size w w':=by
 have h9:=entry_Constant 3 0 ⟨(List.replicate 256 61).toArray⟩ (by show (List.replicate 256 61).toArray.size≤_; rw [List.size_toArray,List.length_replicate]; decide) (by decide) (by decide) w h
 rw [show (⟨(List.replicate 256 61).toArray⟩:ByteArray).data.toList=List.replicate 256 61 from rfl,cst_eqs] at h9
 exact h9
theorem con_den (w:World) (h:Words w):Calls Tryz.prog 9 #[.agg #[.int .u8 4,.int .i64 7,.string ⟨#[]⟩]] w fun e w'=>e=.returned (.tuple #[.string ⟨#[]⟩,.int .i64 2])∧Below w.heap.size w w':=by
 have h9:=entry_Constant 4 7 ⟨#[]⟩ (by decide) (by decide) (by decide) w h
 rw [show (⟨#[]⟩:ByteArray).data.toList=[] from rfl,cst_den] at h9
 exact h9
theorem con_xs (w:World) (h:Words w):Calls Tryz.prog 9 #[.agg #[.int .u8 3,.int .i64 0,.string ⟨(List.replicate 256 120).toArray⟩]] w fun e w'=>e=.returned (.tuple #[.string ⟨(List.replicate 256 120).toArray⟩,.int .i64 0])∧Below w.heap.size w w':=by
 have h9:=entry_Constant 3 0 ⟨(List.replicate 256 120).toArray⟩ (by show (List.replicate 256 120).toArray.size≤_; rw [List.size_toArray,List.length_replicate]; decide) (by decide) (by decide) w h
 rw [show (⟨(List.replicate 256 120).toArray⟩:ByteArray).data.toList=List.replicate 256 120 from rfl,cst_xs] at h9
 exact h9
theorem con_cyc (w:World) (h:Words w):Calls Tryz.prog 9 #[.agg #[.int .u8 4,.int .i64 6,.string ⟨#[]⟩]] w fun e w'=>e=.returned (.tuple #[.string ⟨#[]⟩,.int .i64 2])∧Below w.heap.size w w':=by
 have h9:=entry_Constant 4 6 ⟨#[]⟩ (by decide) (by decide) (by decide) w h
 rw [show (⟨#[]⟩:ByteArray).data.toList=[] from rfl,cst_cyc] at h9
 exact h9
theorem law_EntryExamples (w:World) (he:WEnv w) :
  Calls Tryz.prog 6 #[] w fun e w'=>e=.returned (.bool true)∧Below w.heap.size w w':=by
 have HE:=keep he
 clear he
 have M257:=keep (fun W=>law_many 120 120 rfl 257 (by decide) W)
 have MX:=keep (fun W=>law_many 120 120 rfl 256 (by decide) W)
 have MQ:=keep (fun W=>law_many 61 61 rfl 256 (by decide) W)
 obtain ⟨X,hX⟩:∃ X:ByteArray,⟨(List.replicate 256 120).toArray⟩=X:=⟨_,rfl⟩
 obtain ⟨Q,hQ⟩:∃ Q:ByteArray,⟨(List.replicate 256 61).toArray⟩=Q:=⟨_,rfl⟩
 obtain ⟨Y,hY⟩:∃ Y:ByteArray,⟨(List.replicate 257 120).toArray⟩=Y:=⟨_,rfl⟩
 have CX:=keep (fun W h=>con_xs W h)
 have CQ:=keep (fun W h=>con_eqs W h)
 rw [hX] at MX CX
 rw [hQ] at MQ CQ
 rw [hY] at M257
 have faRow_Y:=faRow_eq
 rw [hY] at faRow_Y
 have HFR:=keep faRow_Y
 clear faRow_Y hX hQ hY
 have H0:=Lib.hid (Ok.start w)
 go_enter Tryz.func6,Tryz.ntmps6
 go_wp2_with fail
 refine (law_text _ _).mono ?_
 rintro e w1 ⟨rfl,hb2⟩
 have H3:=Lib.hid (H0.out.below hb2)
 clear hb2 H0
 go_wp2_with fail
 refine (law_text _ _).mono ?_
 rintro e w4 ⟨rfl,hb5⟩
 have H6:=Lib.hid (H3.out.below hb5)
 clear hb5 H3
 go_wp2_with fail
 refine (law_text _ _).mono ?_
 rintro e w7 ⟨rfl,hb8⟩
 have H9:=Lib.hid (H6.out.below hb8)
 clear hb8 H6
 go_wp2_with fail
 refine (law_text _ _).mono ?_
 rintro e w10 ⟨rfl,hb11⟩
 have H12:=Lib.hid (H9.out.below hb11)
 clear hb11 H9
 go_wp2_with fail
 refine (law_text _ _).mono ?_
 rintro e w13 ⟨rfl,hb14⟩
 have H15:=Lib.hid (H12.out.below hb14)
 clear hb14 H12
 go_wp2_with fail
 refine (law_text _ _).mono ?_
 rintro e w16 ⟨rfl,hb17⟩
 have H18:=Lib.hid (H15.out.below hb17)
 clear hb17 H15
 go_wp2_with fail
 refine (law_text _ _).mono ?_
 rintro e w19 ⟨rfl,hb20⟩
 have H21:=Lib.hid (H18.out.below hb20)
 clear hb20 H18
 go_wp2_with fail
 rw [exRow_eq]
 have H22:=Lib.hid (H21.out.alloc w19.heap.size 40 (exV.flatMap exRow) rfl)
 clear H21
 generalize (w19.alloc (.cells (exV.flatMap exRow).toArray 40))=W23 at H22 ⊢
 go_loopw [2] (fun iv wr=>∃ i:Nat,i≤13∧iv=.int .i64 (i:Int)∧Hid (Ok w [kBlk w19.heap.size 40 (exV.flatMap exRow)] wr)) (fun iv _=>13 - (intOf iv).toNat)
 case atStart=>exact ⟨0,Nat.zero_le _,rfl,H22⟩
 case round =>
  clear H22
  obtain ⟨i,hi,rfl,HR⟩:=hrel
  obtain ⟨wp,rfl⟩:∃ wp:World,wp=wr:=⟨_,rfl⟩
  by_cases hlt:(i:Int)<13
  ·obtain ⟨p,hp⟩:∃ p,exV[i]?=some p:=⟨_,List.getElem?_eq_getElem (show i<exV.length by show i<13; omega)⟩
   have hx:=exV_ok p (List.mem_of_getElem? hp)
   have hc:=cells_row exRow (s:=4) (fun _=>rfl) (HR.out.get (kBlk w19.heap.size 40 (exV.flatMap exRow)) (by simp)) hp
   obtain ⟨l,a,n1,t1⟩:=p
   dsimp only at hx
   have HOF:=keep (of_plain (s:=⟨l.toArray⟩) hx)
   have H:=Lib.hid (HR.out.add (kCells w19.heap.size (i * 4) (exRow (l,a,n1,t1))) hc)
   have hself:=eq_self3 (a:Nat) n1 t1
   have hw9:IntKind.i64.wrap ((i:Int)+1)=(i:Int)+1:=Go.IntWalk.i64_in _ (by omega)
   clear hp hx hc HR
   simp only [exRow] at H
   have F24:=H.out.sees
   simp only [sees,kCells,cellsFrom,Nat.add_zero,Nat.reduceAdd] at F24
   obtain ⟨⟨z0,c00,c01,c02,c03,-⟩,-,-⟩:=F24
   go_wp2_with fail
   refine (HOF.out _ (HE.out.below H.out.bel).1).mono ?_
   rintro e w25 ⟨ta,tc,rfl,hb26⟩
   clear z0 c00 c01 c02 c03
   have H27:=Lib.hid (H.out.below hb26)
   clear hb26 H
   have F28:=H27.out.sees
   simp only [sees,kCells,cellsFrom,Nat.add_zero,Nat.reduceAdd] at F28
   obtain ⟨⟨z0,c00,c01,c02,c03,-⟩,-,-⟩:=F28
   simp only [List.length_nil]
   go_upto_region 6 with fail
   have y29:=z0
   clear z0 c00 c01 c02 c03
   have H30:=Lib.hid (H27.out.var w25.heap.size 31 [.bool false,.int .u8 (a:Nat),.int .i64 n1,.string ⟨t1.toArray⟩,.slice ta 0 tc] rfl)
   clear H27
   generalize (w25.alloc (.cells #[.bool false,.int .u8 (a:Nat),.int .i64 n1,.string ⟨t1.toArray⟩,.slice ta 0 tc] 31))=W31 at H30 ⊢
   have F32:=H30.out.sees
   simp only [sees,kVar,kCells,cellsFrom,Nat.add_zero,cellsAt,Nat.reduceAdd] at F32
   obtain ⟨⟨⟨z0,fz0⟩,c00,c01,c02,c03,c04,-⟩,⟨z1,c10,c11,c12,c13,-⟩,-,-⟩:=F32
   refine wp_region_held_drew (S:=fun W=>Ok w [kVar (w25.heap.size) 31 [.bool false,.int .u8 (a:Nat),.int .i64 n1,.string ⟨t1.toArray⟩,.slice ta 0 tc],kCells w19.heap.size (i * 4) [.string ⟨l.toArray⟩,.int .u8 (a:Nat),.int .i64 n1,.string ⟨t1.toArray⟩],kBlk w19.heap.size 40 (exV.flatMap exRow)] W) (by kernel_rfl) H30.out.drew (fun hHeld => ?_)
   refine wt3 (i:=0) rfl (by assumption) ?_
   refine wt3 (i:=1) rfl (by assumption) ?_
   refine wt3 (i:=2) rfl (by assumption) ?_
   refine wt3 (i:=3) rfl (by assumption) ?_
   refine wt3 (i:=4) rfl (by assumption) ?_
   refine wt3 (i:=5) rfl (by assumption) ?_
   refine wt3 (i:=6) rfl (by assumption) ?_
   refine wt3 (i:=7) rfl (by assumption) ?_
   refine wt3 (i:=8) rfl (by assumption) ?_
   refine wt3 (i:=9) rfl (by assumption) ?_
   refine wt3 (i:=10) rfl (by assumption) ?_
   refine wt3 (i:=11) rfl (by assumption) ?_
   refine wt3 (i:=12) rfl (by assumption) ?_
   refine wt3 (i:=13) rfl (by assumption) ?_
   refine wt3 (i:=14) rfl (by assumption) ?_
   refine wt3 (i:=15) rfl (by assumption) ?_
   refine wt3 (i:=16) rfl (by assumption) ?_
   refine wt3 (i:=17) rfl (by assumption) ?_
   refine wt3 (i:=18) rfl (by assumption) ?_
   refine wt3 (i:=19) rfl (by assumption) ?_
   refine wt3 (i:=20) rfl (by assumption) ?_
   refine wt3 (i:=21) rfl (by assumption) ?_
   refine wt3 (i:=22) rfl (by assumption) ?_
   refine wt3 (i:=23) rfl (by assumption) ?_
   refine wt3 (i:=24) rfl (by assumption) ?_
   refine wt3 (i:=25) rfl (by assumption) ?_
   refine wpAnyH_done (by kernel_rfl) ?_ _
   clear z0 fz0 c00 c01 c02 c03 c04 z1 c10 c11 c12 c13
   clear H30
   have H34:=Lib.hid hHeld
   clear hHeld
   have F35:=H34.out.sees
   simp only [sees,kVar,kCells,cellsFrom,Nat.add_zero,cellsAt,Nat.reduceAdd] at F35
   obtain ⟨⟨⟨z0,fz0⟩,c00,c01,c02,c03,c04,-⟩,⟨z1,c10,c11,c12,c13,-⟩,-,-⟩:=F35
   go_wp2_with fail
   go_roundw
   case rel=>exact ⟨i+1,by omega,by go_num,Lib.hid (H34.out.drop [kBlk w19.heap.size 40 (exV.flatMap exRow)] (by simp))⟩
   case measure=>simp [intOf]; omega
  ·clear hi
   go_wp2_with fail
   refine (of_plain (s:=⟨#[61,65,49,43,49]⟩) mean_a1 _ (HE.out.below HR.out.bel).1).mono ?_
   rintro e w24 ⟨ta,tc,rfl,hb25⟩
   have H26:=Lib.hid ((HR.out.drop [] (by simp)).below hb25)
   clear hb25 HR
   simp only [show kwT.length=3 from rfl]
   go_upto_region 9 with fail
   have H27:=Lib.hid (H26.out.var w24.heap.size 31 [.bool true,.int .u8 0,.int .i64 0,.string ⟨#[]⟩,.slice ta 3 tc] rfl)
   clear H26
   generalize (w24.alloc (.cells #[.bool true,.int .u8 0,.int .i64 0,.string ⟨#[]⟩,.slice ta 3 tc] 31))=W28 at H27 ⊢
   have F29:=H27.out.sees
   simp only [sees,kVar,cellsAt,Nat.reduceAdd] at F29
   obtain ⟨⟨⟨z0,fz0⟩,c00,c01,c02,c03,c04,-⟩,-⟩:=F29
   go_wp2_with fail
   refine (M257.out _).mono ?_
   rintro e w30 ⟨rfl,hb31⟩
   clear z0 fz0 c00 c01 c02 c03 c04
   have H32:=Lib.hid (H27.out.below hb31)
   clear hb31 H27
   go_wp2_with fail
   rw [HFR.out]
   have H33:=Lib.hid ((H32.out.drop [] (by simp)).alloc w30.heap.size 43 (exF.flatMap faRow) rfl)
   clear H32
   generalize (w30.alloc (.cells (exF.flatMap faRow).toArray 43))=W34 at H33 ⊢
   go_loopw [10] (fun iv wr=>∃ i:Nat,i≤6∧iv=.int .i64 (i:Int)∧Hid (Ok w [kBlk w30.heap.size 43 (exF.flatMap faRow)] wr)) (fun iv _=>6 - (intOf iv).toNat)
   case atStart=>exact ⟨0,Nat.zero_le _,rfl,H33⟩
   case round =>
    clear H33 hlt
    obtain ⟨i,hi,rfl,HR⟩:=hrel
    obtain ⟨wq,rfl⟩:∃ wz:World,wz=wr:=⟨_,rfl⟩
    by_cases hlt:(i:Int)<6
    ·obtain ⟨p,hp⟩:∃ p,exF[i]?=some p:=⟨_,List.getElem?_eq_getElem (show i<exF.length by show i<6; omega)⟩
     have hx:=exF_ok p (List.mem_of_getElem? hp)
     have hc:=cells_row faRow (s:=3) (fun _=>rfl) (HR.out.get (kBlk w30.heap.size 43 (exF.flatMap faRow)) (by simp)) hp
     obtain ⟨l,a,n1⟩:=p
     dsimp only at hx
     have HOF:=keep (of_plain (s:=⟨l.toArray⟩) hx)
     have H:=Lib.hid (HR.out.add (kCells w30.heap.size (i * 3) (faRow (l,a,n1))) hc)
     have hw9:IntKind.i64.wrap ((i:Int)+1)=(i:Int)+1:=Go.IntWalk.i64_in _ (by omega)
     clear hp hx hc HR
     simp only [faRow] at H
     have F35:=H.out.sees
     simp only [sees,kCells,cellsFrom,Nat.add_zero,Nat.reduceAdd] at F35
     obtain ⟨⟨z0,c00,c01,c02,-⟩,-,-⟩:=F35
     go_wp2_with fail
     refine (HOF.out _ (HE.out.below H.out.bel).1).mono ?_
     rintro e w36 ⟨ta,tc,rfl,hb37⟩
     clear z0 c00 c01 c02
     have H38:=Lib.hid (H.out.below hb37)
     clear hb37 H
     have F39:=H38.out.sees
     simp only [sees,kCells,cellsFrom,Nat.add_zero,Nat.reduceAdd] at F39
     obtain ⟨⟨z0,c00,c01,c02,-⟩,-,-⟩:=F39
     simp only [List.length_nil]
     go_upto_region 16 with fail
     have y40:=z0
     clear z0 c00 c01 c02
     have H41:=Lib.hid (H38.out.var w36.heap.size 31 [.bool false,.int .u8 0,.int .i64 0,.string ⟨#[]⟩,.slice ta 0 tc] rfl)
     clear H38
     generalize (w36.alloc (.cells #[.bool false,.int .u8 0,.int .i64 0,.string ⟨#[]⟩,.slice ta 0 tc] 31))=W42 at H41 ⊢
     have F43:=H41.out.sees
     simp only [sees,kVar,kCells,cellsFrom,Nat.add_zero,cellsAt,Nat.reduceAdd] at F43
     obtain ⟨⟨⟨z0,fz0⟩,c00,c01,c02,c03,c04,-⟩,⟨z1,c10,c11,c12,-⟩,-,-⟩:=F43
     go_wp2_with fail
     go_roundw
     case rel=>exact ⟨i+1,by omega,by go_num,Lib.hid (H41.out.drop [kBlk w30.heap.size 43 (exF.flatMap faRow)] (by simp))⟩
     case measure=>simp [intOf]; omega
    ·clear hi
     go_upto_region 19 with fail
     rw [caRow_eq]
     have H35:=Lib.hid ((HR.out.drop [] (by simp)).alloc wq.heap.size 46 (exC.flatMap caRow) rfl)
     clear HR
     generalize (wq.alloc (.cells (exC.flatMap caRow).toArray 46))=W36 at H35 ⊢
     go_wp2_with fail
     go_loopw [15] (fun iv wr=>∃ i:Nat,i≤7∧iv=.int .i64 (i:Int)∧Hid (Ok w [kBlk wq.heap.size 46 (exC.flatMap caRow)] wr)) (fun iv _=>7 - (intOf iv).toNat)
     case atStart=>exact ⟨0,Nat.zero_le _,rfl,H35⟩
     case round =>
      clear H35 hlt
      obtain ⟨i,hi,rfl,HR⟩:=hrel
      obtain ⟨wo,rfl⟩:∃ wz:World,wz=wr:=⟨_,rfl⟩
      by_cases hlt:(i:Int)<7
      ·obtain ⟨p,hp⟩:∃ p,exC[i]?=some p:=⟨_,List.getElem?_eq_getElem (show i<exC.length by show i<7; omega)⟩
       have hx:=exC_ok p (List.mem_of_getElem? hp)
       have hc:=cells_row caRow (s:=2) (fun _=>rfl) (HR.out.get (kBlk wq.heap.size 46 (exC.flatMap caRow)) (by simp)) hp
       obtain ⟨l,c⟩:=p
       dsimp only at hx
       have HCA:=keep (fun W h=>entry_Canonical ⟨l.toArray⟩ W h)
       rw [show (⟨l.toArray⟩:ByteArray).data.toList=l from rfl,hx] at HCA
       have H:=Lib.hid (HR.out.add (kCells wq.heap.size (i * 2) (caRow (l,c))) hc)
       have hw9:IntKind.i64.wrap ((i:Int)+1)=(i:Int)+1:=Go.IntWalk.i64_in _ (by omega)
       clear hp hx hc HR
       simp only [caRow] at H
       have F37:=H.out.sees
       simp only [sees,kCells,cellsFrom,Nat.add_zero,Nat.reduceAdd] at F37
       obtain ⟨⟨z0,c00,c01,-⟩,-,-⟩:=F37
       go_wp2_with fail
       refine (HCA.out _ (HE.out.below H.out.bel)).mono ?_
       rintro e w38 ⟨rfl,hb39⟩
       clear z0 c00 c01
       have H40:=Lib.hid (H.out.below hb39)
       clear hb39 H
       have F41:=H40.out.sees
       simp only [sees,kCells,cellsFrom,Nat.add_zero,Nat.reduceAdd] at F41
       obtain ⟨⟨z0,c00,c01,-⟩,-,-⟩:=F41
       go_wp2_with fail
       go_roundw
       case rel=>exact ⟨i+1,by omega,by go_num,Lib.hid (H40.out.drop [kBlk wq.heap.size 46 (exC.flatMap caRow)] (by simp))⟩
       case measure=>simp [intOf]; omega
      ·clear hi
       have HR2:=Lib.hid (HR.out.drop [] (by simp))
       clear HR
       go_wp2_with fail
       refine (law_text _ _).mono ?_
       rintro e w37 ⟨rfl,hb38⟩
       have H39:=Lib.hid (HR2.out.below hb38)
       clear hb38 HR2
       go_wp2_with fail
       refine (con_5 _ (HE.out.below H39.out.bel).1).mono ?_
       rintro e w40 ⟨rfl,hb41⟩
       have H42:=Lib.hid (H39.out.below hb41)
       clear hb41 H39
       go_wp2_with fail
       refine (law_text _ _).mono ?_
       rintro e w43 ⟨rfl,hb44⟩
       have H45:=Lib.hid (H42.out.below hb44)
       clear hb44 H42
       go_wp2_with fail
       refine (con_nil _ (HE.out.below H45.out.bel).1).mono ?_
       rintro e w46 ⟨rfl,hb47⟩
       have H48:=Lib.hid (H45.out.below hb47)
       clear hb47 H45
       go_wp2_with fail
       refine (MQ.out _).mono ?_
       rintro e w49 ⟨rfl,hb50⟩
       have H51:=Lib.hid (H48.out.below hb50)
       clear hb50 H48
       go_wp2_with fail
       refine (law_text _ _).mono ?_
       rintro e w52 ⟨rfl,hb53⟩
       have H54:=Lib.hid (H51.out.below hb53)
       clear hb53 H51
       go_wp2_with fail
       refine (CQ.out _ (HE.out.below H54.out.bel).1).mono ?_
       rintro e w55 ⟨rfl,hb56⟩
       have H57:=Lib.hid (H54.out.below hb56)
       clear hb56 H54
       go_wp2_with fail
       refine (con_den _ (HE.out.below H57.out.bel).1).mono ?_
       rintro e w58 ⟨rfl,hb59⟩
       have H60:=Lib.hid (H57.out.below hb59)
       clear hb59 H57
       go_wp2_with fail
       refine (MX.out _).mono ?_
       rintro e w61 ⟨rfl,hb62⟩
       have H63:=Lib.hid (H60.out.below hb62)
       clear hb62 H60
       go_wp2_with fail
       refine (law_text _ _).mono ?_
       rintro e w64 ⟨rfl,hb65⟩
       have H66:=Lib.hid (H63.out.below hb65)
       clear hb65 H63
       go_wp2_with fail
       refine (CX.out _ (HE.out.below H66.out.bel).1).mono ?_
       rintro e w67 ⟨rfl,hb68⟩
       have H69:=Lib.hid (H66.out.below hb68)
       clear hb68 H66
       go_wp2_with fail
       refine (con_cyc _ (HE.out.below H69.out.bel).1).mono ?_
       rintro e w70 ⟨rfl,hb71⟩
       have H72:=Lib.hid (H69.out.below hb71)
       clear hb71 H69
       go_wp2_with fail
       refine (MX.out _).mono ?_
       rintro e w73 ⟨rfl,hb74⟩
       have H75:=Lib.hid (H72.out.below hb74)
       clear hb74 H72
       go_upto_region 36 with fail
       have hzs:=H75.out.bel.size
       have H76:=Lib.hid ((H75.out.var w73.heap.size 51 [.int .i64 1,.int .i64 1,.string ⟨#[53]⟩] rfl).var (w73.heap.size+1) 51 [.int .i64 2,.int .i64 1,.string ⟨#[61]⟩] (by simp))
       clear H75
       generalize ((w73.alloc (.cells #[.int .i64 1,.int .i64 1,.string ⟨#[53]⟩] 51)).alloc (.cells #[.int .i64 2,.int .i64 1,.string ⟨#[61]⟩] 51))=W77 at H76 ⊢
       have F78:=H76.out.sees
       simp only [sees,kVar,cellsAt,Nat.reduceAdd] at F78
       obtain ⟨⟨⟨z0,fz0⟩,c00,c01,c02,-⟩,⟨⟨z1,fz1⟩,c10,c11,c12,-⟩,-⟩:=F78
       go_wp2_with fail
       clear z0 fz0 c00 c01 c02 z1 fz1 c10 c11 c12
       have H79:=Lib.hid (H76.out.alloc W77.heap.size 51 [.int .i64 1,.int .i64 1,.string ⟨#[53]⟩,.int .i64 2,.int .i64 1,.string ⟨#[61]⟩] rfl)
       clear H76
       generalize (W77.alloc (.cells #[.int .i64 1,.int .i64 1,.string ⟨#[53]⟩,.int .i64 2,.int .i64 1,.string ⟨#[61]⟩] 51))=W80 at H79 ⊢
       have HC:=entry_Check [⟨1,1,[53]⟩,⟨2,1,[61]⟩] (some ⟨W77.heap.size,0,none⟩) 2 _ (by decide) (rows_blk enRow (s:=3) (fun _=>rfl) (H79.out.get (kBlk (W77.heap.size) 51 [.int .i64 1,.int .i64 1,.string ⟨#[53]⟩,.int .i64 2,.int .i64 1,.string ⟨#[61]⟩]) (by simp))) (HE.out.below H79.out.bel).1
       rw [chk_1] at HC
       have HCK:=keep HC
       clear HC
       have H81:=Lib.hid (H79.out.drop [kVar (w73.heap.size+1) 51 [.int .i64 2,.int .i64 1,.string ⟨#[61]⟩],kVar (w73.heap.size) 51 [.int .i64 1,.int .i64 1,.string ⟨#[53]⟩]] (by simp))
       clear H79
       refine (show Calls Tryz.prog 18 #[.slice (some ⟨W77.heap.size,0,none⟩) 2 2] W80 _ from HCK.out).mono ?_
       rintro e w82 ⟨rfl,hb83⟩
       have H84:=Lib.hid (H81.out.below hb83)
       clear hb83 H81
       have F85:=H84.out.sees
       simp only [sees,kVar,cellsAt,Nat.reduceAdd] at F85
       obtain ⟨⟨⟨z0,fz0⟩,c00,c01,c02,-⟩,⟨⟨z1,fz1⟩,c10,c11,c12,-⟩,-⟩:=F85
       clear HCK
       go_wp2_with fail
       clear z0 fz0 c00 c01 c02 z1 fz1 c10 c11 c12
       have H86:=Lib.hid (H84.out.alloc w82.heap.size 51 [.int .i64 1,.int .i64 1,.string ⟨#[53]⟩,.int .i64 1,.int .i64 1,.string ⟨#[53]⟩] rfl)
       clear H84
       generalize (w82.alloc (.cells #[.int .i64 1,.int .i64 1,.string ⟨#[53]⟩,.int .i64 1,.int .i64 1,.string ⟨#[53]⟩] 51))=W87 at H86 ⊢
       have HC:=entry_Check [⟨1,1,[53]⟩,⟨1,1,[53]⟩] (some ⟨w82.heap.size,0,none⟩) 2 _ (by decide) (rows_blk enRow (s:=3) (fun _=>rfl) (H86.out.get (kBlk (w82.heap.size) 51 [.int .i64 1,.int .i64 1,.string ⟨#[53]⟩,.int .i64 1,.int .i64 1,.string ⟨#[53]⟩]) (by simp))) (HE.out.below H86.out.bel).1
       rw [chk_2] at HC
       have HCK:=keep HC
       clear HC
       have H88:=Lib.hid (H86.out.drop [kVar (w73.heap.size+1) 51 [.int .i64 2,.int .i64 1,.string ⟨#[61]⟩],kVar (w73.heap.size) 51 [.int .i64 1,.int .i64 1,.string ⟨#[53]⟩]] (by simp))
       clear H86
       refine (show Calls Tryz.prog 18 #[.slice (some ⟨w82.heap.size,0,none⟩) 2 2] W87 _ from HCK.out).mono ?_
       rintro e w89 ⟨rfl,hb90⟩
       have H91:=Lib.hid (H88.out.below hb90)
       clear hb90 H88
       have F92:=H91.out.sees
       simp only [sees,kVar,cellsAt,Nat.reduceAdd] at F92
       obtain ⟨⟨⟨z0,fz0⟩,c00,c01,c02,-⟩,⟨⟨z1,fz1⟩,c10,c11,c12,-⟩,-⟩:=F92
       clear HCK
       go_wp2_with fail
       clear z0 fz0 c00 c01 c02 z1 fz1 c10 c11 c12
       have H93:=Lib.hid (H91.out.alloc w89.heap.size 51 [.int .i64 1,.int .i64 1,.string ⟨#[]⟩] rfl)
       clear H91
       generalize (w89.alloc (.cells #[.int .i64 1,.int .i64 1,.string ⟨#[]⟩] 51))=W94 at H93 ⊢
       have HC:=entry_Check [⟨1,1,[]⟩] (some ⟨w89.heap.size,0,none⟩) 1 _ (by decide) (rows_blk enRow (s:=3) (fun _=>rfl) (H93.out.get (kBlk (w89.heap.size) 51 [.int .i64 1,.int .i64 1,.string ⟨#[]⟩]) (by simp))) (HE.out.below H93.out.bel).1
       rw [chk_3] at HC
       have HCK:=keep HC
       clear HC
       have H95:=Lib.hid (H93.out.drop [kVar (w73.heap.size+1) 51 [.int .i64 2,.int .i64 1,.string ⟨#[61]⟩],kVar (w73.heap.size) 51 [.int .i64 1,.int .i64 1,.string ⟨#[53]⟩]] (by simp))
       clear H93
       refine (show Calls Tryz.prog 18 #[.slice (some ⟨w89.heap.size,0,none⟩) 1 1] W94 _ from HCK.out).mono ?_
       rintro e w96 ⟨rfl,hb97⟩
       have H98:=Lib.hid (H95.out.below hb97)
       clear hb97 H95
       have F99:=H98.out.sees
       simp only [sees,kVar,cellsAt,Nat.reduceAdd] at F99
       obtain ⟨⟨⟨z0,fz0⟩,c00,c01,c02,-⟩,⟨⟨z1,fz1⟩,c10,c11,c12,-⟩,-⟩:=F99
       clear HCK
       go_wp2_with fail
       clear z0 fz0 c00 c01 c02 z1 fz1 c10 c11 c12
       have H100:=Lib.hid (H98.out.alloc w96.heap.size 51 [.int .i64 0,.int .i64 0,.string ⟨#[53]⟩] rfl)
       clear H98
       generalize (w96.alloc (.cells #[.int .i64 0,.int .i64 0,.string ⟨#[53]⟩] 51))=W101 at H100 ⊢
       have HC:=entry_Check [⟨0,0,[53]⟩] (some ⟨w96.heap.size,0,none⟩) 1 _ (by decide) (rows_blk enRow (s:=3) (fun _=>rfl) (H100.out.get (kBlk (w96.heap.size) 51 [.int .i64 0,.int .i64 0,.string ⟨#[53]⟩]) (by simp))) (HE.out.below H100.out.bel).1
       rw [chk_4] at HC
       have HCK:=keep HC
       clear HC
       have H102:=Lib.hid (H100.out.drop [kVar (w73.heap.size+1) 51 [.int .i64 2,.int .i64 1,.string ⟨#[61]⟩],kVar (w73.heap.size) 51 [.int .i64 1,.int .i64 1,.string ⟨#[53]⟩]] (by simp))
       clear H100
       refine (show Calls Tryz.prog 18 #[.slice (some ⟨w96.heap.size,0,none⟩) 1 1] W101 _ from HCK.out).mono ?_
       rintro e w103 ⟨rfl,hb104⟩
       have H105:=Lib.hid (H102.out.below hb104)
       clear hb104 H102
       have F106:=H105.out.sees
       simp only [sees,kVar,cellsAt,Nat.reduceAdd] at F106
       obtain ⟨⟨⟨z0,fz0⟩,c00,c01,c02,-⟩,⟨⟨z1,fz1⟩,c10,c11,c12,-⟩,-⟩:=F106
       clear HCK
       go_upto_region 41 with fail
       have H107:=Lib.hid (H105.out.drop [kVar (w73.heap.size+1) 51 [.int .i64 2,.int .i64 1,.string ⟨#[61]⟩],kVar (w73.heap.size) 51 [.int .i64 1,.int .i64 1,.string ⟨#[53]⟩]] (by simp))
       have hfar:∀ x∈[kVar (w73.heap.size) 51 [.int .i64 1,.int .i64 1,.string ⟨#[53]⟩]],x.far (some (w73.heap.size+1)):=by
        simp [kVar] <;> omega
       have H108:Hid (Ok w [kVar (w73.heap.size+1) 51 [.int .i64 2,.int .i64 1,.string ⟨#[54]⟩],kVar (w73.heap.size) 51 [.int .i64 1,.int .i64 1,.string ⟨#[53]⟩]] (w103.setCell ⟨w73.heap.size+1,2,none⟩ (.string ⟨#[54]⟩))):=Lib.hid (H107.out.set_ (i:=2) (u:=.string ⟨#[54]⟩) (by omega) hfar)
       clear z0 fz0 c00 c01 c02 z1 fz1 c10 c11 c12
       clear H105 H107 hfar
       generalize (w103.setCell ⟨w73.heap.size+1,2,none⟩ (.string ⟨#[54]⟩))=W109 at H108 ⊢
       have F110:=H108.out.sees
       simp only [sees,kVar,cellsAt,Nat.reduceAdd] at F110
       obtain ⟨⟨⟨z0,fz0⟩,c00,c01,c02,-⟩,⟨⟨z1,fz1⟩,c10,c11,c12,-⟩,-⟩:=F110
       go_wp2_with fail
       clear z0 fz0 c00 c01 c02 z1 fz1 c10 c11 c12
       have H111:=Lib.hid (H108.out.alloc W109.heap.size 51 [.int .i64 1,.int .i64 1,.string ⟨#[53]⟩,.int .i64 2,.int .i64 1,.string ⟨#[54]⟩] rfl)
       clear H108
       generalize (W109.alloc (.cells #[.int .i64 1,.int .i64 1,.string ⟨#[53]⟩,.int .i64 2,.int .i64 1,.string ⟨#[54]⟩] 51))=W112 at H111 ⊢
       have HC:=entry_Check [⟨1,1,[53]⟩,⟨2,1,[54]⟩] (some ⟨W109.heap.size,0,none⟩) 2 _ (by decide) (rows_blk enRow (s:=3) (fun _=>rfl) (H111.out.get (kBlk (W109.heap.size) 51 [.int .i64 1,.int .i64 1,.string ⟨#[53]⟩,.int .i64 2,.int .i64 1,.string ⟨#[54]⟩]) (by simp))) (HE.out.below H111.out.bel).1
       rw [chk_5] at HC
       have HCK:=keep HC
       clear HC
       have H113:=Lib.hid (H111.out.drop [kVar (w73.heap.size+1) 51 [.int .i64 2,.int .i64 1,.string ⟨#[54]⟩],kVar (w73.heap.size) 51 [.int .i64 1,.int .i64 1,.string ⟨#[53]⟩]] (by simp))
       clear H111
       refine (show Calls Tryz.prog 18 #[.slice (some ⟨W109.heap.size,0,none⟩) 2 2] W112 _ from HCK.out).mono ?_
       rintro e w114 ⟨rfl,hb115⟩
       have H116:=Lib.hid (H113.out.below hb115)
       clear hb115 H113
       have F117:=H116.out.sees
       simp only [sees,kVar,cellsAt,Nat.reduceAdd] at F117
       obtain ⟨⟨⟨z0,fz0⟩,c00,c01,c02,-⟩,⟨⟨z1,fz1⟩,c10,c11,c12,-⟩,-⟩:=F117
       clear HCK
       go_wp2_with fail
       go_ret
       exact ⟨rfl,H116.out.bel⟩
theorem EntryExamples_walk (w:World) (hL:laidMetH Tryz.prog Rows.entryExamplesRow.laid w) (hS:w.ShapedOpen Tryz.prog) :
  Calls Tryz.prog 6 #[] w fun e w'=>e=.returned (.bool true)∧Below w.heap.size w w' :=
 law_EntryExamples w (env10_of hL hS (by kernel_rfl) (by kernel_rfl))
