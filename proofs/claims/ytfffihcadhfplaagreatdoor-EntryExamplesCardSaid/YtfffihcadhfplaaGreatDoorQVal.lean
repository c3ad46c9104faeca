/- Contracts of package addr's and its reference's small functions: Less, Index. Contracts of Has, One and Inside, package rect's and the reference's. Contracts of package addr's At and Letters and of their references. Contracts of package addr's Format and of its reference. Condition: the library's table of powers of ten holds what its initialiser lays. The library's table of powers of ten, out of the row's list. Contracts of package val at errors. The table of the errors' names, off the row's condition. -/
import Derived.Test.YtfffihcadhfplaaGreatDoorQIterV
import Derived.Test.YtfffihcadhfplaaGreatDoorQShelf
import Derived.Test.YtfffihcadhfplaaGreatDoorQAddrP
import Derived.Deep.RegionHeld3
import Derived.Lib.SmallJoins
import Derived.Lib.AppendIntMem
import Derived.LaidSub
import Derived.Test.YtfffihcadhfplaaGreatDoorQLexP
import Derived.Deep.DeepCutAuto
import Derived.Lib.LaidTab
import Derived.Stop.LaidErr
import Derived.LaidLaws
namespace Go.Proofs.YtfffihcadhfplaaGreatDoor
open Go.RowKit
theorem addr_Less (ac ar bc br:Int) (w:World) :
  Calls Tryz.prog 32 #[.agg #[.int .i64 ac,.int .i64 ar],.agg #[.int .i64 bc,.int .i64 br]] w fun e w'=>e=.returned (.bool (lessS ac ar bc br))∧Below w.heap.size w w':=by
 rcases (show ar<br∨(¬ ar<br∧ar=br∧ac<bc)∨(¬ ar<br∧ar=br∧¬ ac<bc)∨(¬ ar<br∧¬ ar=br) from by omega) with h | ⟨h1,h2,h3⟩ | ⟨h1,h2,h3⟩ | ⟨h1,h2⟩
 ·go_enter Tryz.func32,Tryz.ntmps32
  go_wp2
  go_ret
  exact ⟨by simp [lessS,h],((Below.refl _ _).alloc (Nat.le_refl _) _).alloc (by simp) _⟩
 ·subst h2
  go_enter Tryz.func32,Tryz.ntmps32
  go_wp2
  go_ret
  exact ⟨by simp [lessS,h3],((Below.refl _ _).alloc (Nat.le_refl _) _).alloc (by simp) _⟩
 ·subst h2
  go_enter Tryz.func32,Tryz.ntmps32
  go_wp2
  go_ret
  exact ⟨by simp [lessS]; omega,((Below.refl _ _).alloc (Nat.le_refl _) _).alloc (by simp) _⟩
 ·have hb:(ar == br)=false:=by simp [h2]
  have H2:=Lib.hid h2
  clear h2
  go_enter Tryz.func32,Tryz.ntmps32
  go_wp2
  go_ret
  exact ⟨by have:=H2.out; simp [lessS]; omega,((Below.refl _ _).alloc (Nat.le_refl _) _).alloc (by simp) _⟩
theorem encode_small (n:Nat) (h:n<128):Utf8.encode (n:Int)=⟨#[UInt8.ofNat n]⟩:=by
 have hv:Utf8.valid (n:Int)=true:=by simp [Utf8.valid]; omega
 simp only [Utf8.encode,hv,if_true,Int.toNat_natCast]
 rw [if_pos (by omega)]
theorem bytes_append (x y:List UInt8):((⟨x.toArray⟩:ByteArray)++⟨y.toArray⟩)=⟨(x++y).toArray⟩:=ByteArray.mk_append_mk x y
theorem lettersC_bad (c:Int) (h:¬ (1≤c∧c≤1024)):lettersC c=([],3):=by unfold lettersC; rw [if_neg h]
theorem lettersC_good (n:Nat) (h:1≤(n:Int)∧(n:Int)≤1024):lettersC n=(lettersN n,0):=by unfold lettersC; rw [if_pos h,Int.toNat_natCast]
theorem letter_step (n m:Nat) (acc:List UInt8) (h:lettersN n=lettersN m++acc) (h0:0<m):lettersN n=lettersN ((m - 1) / 26)++(UInt8.ofNat (65+(m - 1) % 26)::acc):=by
 rw [h,lettersN_pos m h0]; simp
theorem addr_Letters (c:Int) (w:World) (_h0 : -9223372036854775808≤c) (_h1:c≤9223372036854775807) :
  Calls Tryz.prog 153 #[.int .i64 c] w fun e w'=>e=.returned (.tuple #[.string ⟨(lettersC c).1.toArray⟩,.int .i64 (lettersC c).2])∧w=w':=by
 rcases (show c<1∨(1≤c∧1024<c)∨(1≤c∧c≤1024) from by omega) with h | ⟨h0,h⟩ | ⟨h0,h⟩
 ·rw [lettersC_bad c (by omega)]
  go_enter Tryz.func153,Tryz.ntmps153
  go_wp2
  go_ret2
  exact ⟨rfl,rfl⟩
 ·rw [lettersC_bad c (by omega)]
  go_enter Tryz.func153,Tryz.ntmps153
  go_wp2
  go_ret2
  exact ⟨rfl,rfl⟩
 ·obtain ⟨n,rfl⟩:=Int.eq_ofNat_of_zero_le (show 0≤c from by omega)
  rw [lettersC_good n ⟨h0,h⟩]
  go_enter Tryz.func153,Tryz.ntmps153
  go_wp2
  go_loop [0,4] (fun k s=>∃ (m:Nat) (acc:List UInt8),m≤n∧acc.length+m≤1024∧k=.int .i64 m∧s=.string ⟨acc.toArray⟩∧lettersN n=lettersN m++acc) (fun k _=>(intOf k).toNat)
  case atStart=>exact ⟨n,[],Nat.le_refl _,by simp; omega,rfl,rfl,by simp⟩
  case round =>
   obtain ⟨m,acc,hm,hl,rfl,rfl,hacc⟩:=hrel
   have HA:=Lib.hid hacc
   clear hacc
   rcases Nat.eq_zero_or_pos m with h0 | h0
   ·subst h0
    go_wp2
    go_ret2
    have e:=HA.out
    rw [lettersN_zero,List.nil_append] at e
    rw [e]
    exact ⟨rfl,rfl⟩
   ·have henc:Utf8.encode (65+((m:Int) - 1) % 26)=⟨#[65+UInt8.ofNat ((m - 1) % 26)]⟩:=by
     rw [show (65+((m:Int) - 1) % 26)=((65+(m - 1) % 26:Nat):Int) from by omega,encode_small _ (by omega)]; simp
    go_wp2
    go_round
    case measure=>simp [intOf]; omega
    case rel =>
     refine ⟨(m - 1) / 26,(65+UInt8.ofNat ((m - 1) % 26))::acc,by omega,by simp; omega,by congr 1; omega,congrArg Value.string (bytes_append [_] acc),?_⟩
     have:=letter_step n m acc HA.out h0
     rwa [show UInt8.ofNat (65+(m - 1) % 26)=65+UInt8.ofNat ((m - 1) % 26) from by simp] at this
def Pow (w : World) : Prop := Lib.TabIs Tryz.prog w "internal/strconv.uint64pow10" .u64 Lib.pow10Tab
theorem gPow : Tryz.prog.globalNamed "internal/strconv.uint64pow10" = some 4 := by kernel_rfl
theorem Pow.below {w w':World} (h:Pow w) (hb:Below w.heap.size w w'):Pow w':=Joins.tab_stays gPow h hb (Nat.le_refl _)
theorem Itoa (n:Int) (h0:0≤n) (h1:n≤9223372036854775807) (w:World) (hp:Pow w) :
  Calls Tryz.prog 154 #[.int .i64 n] w fun e w'=>e=.returned (.string ⟨(Lib.decDigits n.toNat).toArray⟩)∧Below w.heap.size w w' :=
 (Tryz.strconv_Itoa n (by omega) h1 w hp).mono fun e w' ⟨he,k,os,hw⟩=>by
  refine ⟨?_,hw▸Lib.below_grow _ _ (Nat.le_refl _) k os⟩
  rw [he,Lib.itoa,if_neg (by omega)]
theorem lettersN_len (n:Nat) (h:n≤1024):(lettersN n).length≤1024:=by
 have key:∀ n:Nat,(lettersN n).length≤n:=by
  intro n
  induction n using Nat.strongRecOn with
  | _ n ih =>
   rcases Nat.eq_zero_or_pos n with rfl | hp
   ·simp [lettersN_zero]
   ·rw [lettersN_pos n hp,List.length_append]
    have:=ih ((n - 1) / 26) (by omega)
    simp; omega
 exact Nat.le_trans (key n) h
theorem dec_len (n:Nat) (h:n≤1024):(Lib.decDigits n).length≤1025:=by
 have key:∀ n:Nat,(Lib.decDigits n).length≤n+1:=by
  intro n
  induction n using Nat.strongRecOn with
  | _ n ih =>
   by_cases hp:n<10
   ·rw [dec_small hp]; simp
   ·rw [dec_big hp,List.length_append]
    have:=ih (n / 10) (by omega)
    simp; omega
 exact Nat.le_trans (key n) (by omega)
theorem formatS_bad (c r:Int) (h:validN c r=false):formatS c r=([],3):=by unfold formatS; rw [if_neg (by simp [h])]
theorem formatS_good (c r:Int) (h:validN c r=true):formatS c r=(lettersN c.toNat++Lib.decDigits r.toNat,0):=by unfold formatS; rw [if_pos h]
theorem validN_parts {c r:Int} (h:validN c r=true):1≤c∧c≤1024∧1≤r∧r≤1024:=by simpa [validN] using h
theorem addr_Format (c r:Int) (w:World) (hp:Pow w) :
  Calls Tryz.prog 141 #[.agg #[.int .i64 c,.int .i64 r]] w fun e w'=>e=.returned (.tuple #[.string ⟨(formatS c r).1.toArray⟩,.int .i64 (formatS c r).2])∧Below w.heap.size w w':=by
 have HP:=Lib.hid hp
 clear hp
 cases hv:validN c r
 ·rw [formatS_bad c r hv]
  have H:=Lib.hid hv
  clear hv
  go_enter Tryz.func141,Tryz.ntmps141
  go_wp2_with fail
  refine (addr_Valid _ _ _).mono ?_
  rintro e w' ⟨rfl,hb⟩
  rw [H.out]
  have HB:=Lib.hid hb
  clear hb
  go_wp2_with fail
  go_ret2
  exact ⟨rfl,((Below.refl _ _).alloc (Nat.le_refl _) _).trans (HB.out.mono (by simp))⟩
 ·rw [formatS_good c r hv]
  obtain ⟨h1,h2,h3,h4⟩:=validN_parts hv
  have H:=Lib.hid hv
  clear hv
  go_enter Tryz.func141,Tryz.ntmps141
  go_wp2_with fail
  refine (addr_Valid _ _ _).mono ?_
  rintro e w1 ⟨rfl,hb⟩
  rw [H.out]
  have hc0:=hb.cell (p:=⟨w.heap.size,0,none⟩) (by simp)
  have hc1:=hb.cell (p:=⟨w.heap.size,1,none⟩) (by simp)
  have HB:=Lib.hid (((Below.refl w.heap.size w).alloc (Nat.le_refl _) _).trans (hb.mono (by simp)))
  clear hb
  go_wp2_with fail
  refine (addr_Letters _ _ (by omega) (by omega)).mono ?_
  rintro e w2 ⟨rfl,rfl⟩
  rw [show lettersC c=(lettersN c.toNat,0) from by unfold lettersC; rw [if_pos ⟨h1,h2⟩]]
  have hl:=lettersN_len c.toNat (by omega)
  generalize hlc:lettersN c.toNat=lc at hl ⊢
  have HLC:=Lib.hid hlc
  clear hlc
  go_wp2_with fail
  refine (Itoa _ (by omega) (by omega) _ (HP.out.below HB.out)).mono ?_
  rintro e w2 ⟨rfl,hb2⟩
  have hd:=dec_len r.toNat (by omega)
  generalize hlr:Lib.decDigits r.toNat=lr at hd ⊢
  have HLR:=Lib.hid hlr
  clear hlr
  have HB2:=Lib.hid (HB.out.trans (hb2.mono HB.out.size))
  clear hb2
  go_wp2_with fail
  go_ret2
  exact ⟨by rw [bytes_append,HLC.out,HLR.out]; rfl,HB2.out⟩
theorem pow_type:(Tryz.prog.globals[4]?).map (·.type)=some 220:=by kernel_rfl
theorem pow_cells:Tryz.prog.cellsOf 220=20:=by kernel_rfl
theorem u64_cells:Tryz.prog.cellsOf 103=1:=by kernel_rfl
theorem pow_of_one {W : World} (h : laidMet Tryz.prog [("internal/strconv.uint64pow10", Lib.tabData .u64 Lib.pow10Tab)] W) : Pow W :=
 Lib.tabIs_of_head gPow pow_type Tryz.underlying220 Tryz.underlying103 u64_cells pow_cells h
theorem pow_datum:(Rows.laid_internal_strconv_uint64pow10:DataW Unit)=Lib.tabData .u64 Lib.pow10Tab:=by kernel_rfl
theorem pow_of_laid {W:World} {l:List (String×DataW Unit)} (h:laidMetH Tryz.prog l W)
  (hl : l.filter (fun x => x.1 == "internal/strconv.uint64pow10") = [("internal/strconv.uint64pow10", Rows.laid_internal_strconv_uint64pow10)]) : Pow W := by
 have h2 := h.filter (fun x => x.1 == "internal/strconv.uint64pow10")
 rw [hl,pow_datum] at h2
 exact pow_of_one h2
set_option maxRecDepth 100000
set_option maxHeartbeats 1000000
section
open Go.RowKit
def allNames:List (List UInt8):=[[],[35,68,73,86,47,48,33],[35,86,65,76,85,69,33],[35,78,85,77,33],[35,78,47,65],[35,82,69,70,33],[35,67,89,67,76,69,33],[35,68,69,78,73,69,68]]
def Words (w:World):Prop:=0+0<w.heap.size∧∀ i<8,w.cell? ⟨0,i,none⟩=some (.string ⟨(allNames[i]?.getD []).toArray⟩)
theorem Words.below {w w':World} (h:Words w) (hb:Below w.heap.size w w'):Words w' :=
 ⟨Nat.lt_of_lt_of_le h.1 hb.size,fun i hi=>cell_step hb (h.2 i hi)⟩
theorem fail_code (c:Int) (h1:1≤c) (h2:c≤7) (w:World) :
  Calls Tryz.prog 19 #[.int .i64 c] w fun e w'=>e=.returned (.agg #[.int .u8 4,.int .i64 c,.string ⟨#[]⟩])∧Below w.heap.size w w':=by
 have H0:=Lib.hid (Ok.start w)
 have hc:¬ c<1:=by omega
 have hc2:¬ c>7:=by omega
 go_enter Tryz.func19,Tryz.ntmps19
 go_upto_region 1 with fail
 have H1:=Lib.hid (H0.out.var w.heap.size 23 [.int .u8 0,.int .i64 0,.string ⟨#[]⟩] rfl)
 clear H0
 generalize (w.alloc (.cells #[.int .u8 0,.int .i64 0,.string ⟨#[]⟩] 23))=W2 at H1 ⊢
 have F3:=H1.out.sees
 simp only [sees,kVar,cellsAt,Nat.reduceAdd] at F3
 obtain ⟨⟨⟨z0,fz0⟩,c00,c01,c02,-⟩,-⟩:=F3
 go_wp2_with fail
 have hK:=H1.out.get (kVar (w.heap.size) 23 [.int .u8 0,.int .i64 0,.string ⟨#[]⟩]) (by simp)
 have hB:=H1.out.bel
 have hE:=((((show Blk W2 (w.heap.size) 23 _ from hK).set_ 0 (.int .u8 4)).set_ 1 (.int .i64 c)).set_ 2 (.string ⟨#[]⟩))
 have r0:=hE.cell 0
 have r1:=hE.cell 1
 have r2:=hE.cell 2
 simp at r0 r1 r2
 refine bodyPost_ret (v:=.agg #[.int .u8 4,.int .i64 c,.string ⟨#[]⟩]) (by simp [results,Tryz.results19,go_sem,r0,r1,r2]) rfl ⟨rfl,(((hB.setCell (by simp) _).setCell (by simp) _).setCell (by simp) _)⟩
theorem check_err (c:Int) (h1:1≤c) (h2:c≤6) (w:World) :
  Calls Tryz.prog 14 #[.agg #[.int .u8 4,.int .i64 c,.string ⟨#[]⟩]] w fun e w'=>e=.returned (.int .i64 0)∧Below w.heap.size w w':=by
 have H1:=Lib.hid ((Ok.start w).alloc w.heap.size 23 [.int .u8 4,.int .i64 c,.string ⟨#[]⟩] rfl)
 have hc:(1:Int)≤c:=h1
 go_enter Tryz.func14,Tryz.ntmps14
 go_wp2_with fail
 generalize (w.alloc (.cells #[.int .u8 4,.int .i64 c,.string ⟨#[]⟩] 23))=W2 at H1 ⊢
 go_ret
 exact ⟨rfl,H1.out.bel⟩
theorem show_err (c:Int) (h1:1≤c) (h2:c≤7) (w:World) (hw:Words w) :
  Calls Tryz.prog 15 #[.agg #[.int .u8 4,.int .i64 c,.string ⟨#[]⟩]] w fun e w'=>e=.returned (.string ⟨(allNames[c.toNat]?.getD []).toArray⟩)∧Below w.heap.size w w':=by
 have HW:=Lib.hid hw
 clear hw
 have H1:=Lib.hid ((Ok.start w).alloc w.heap.size 23 [.int .u8 4,.int .i64 c,.string ⟨#[]⟩] rfl)
 by_cases h7:c=7
 ·subst h7
  go_enter Tryz.func15,Tryz.ntmps15
  go_wp2_with fail
  generalize (w.alloc (.cells #[.int .u8 4,.int .i64 7,.string ⟨#[]⟩] 23))=W2 at H1 ⊢
  refine wp_region_held_drew (S:=fun W=>Ok w [kBlk (w.heap.size) 23 [.int .u8 4,.int .i64 7,.string ⟨#[]⟩]] W) (by kernel_rfl) H1.out.drew (fun hHeld => ?_)
  refine wt3 (i:=0) rfl (by assumption) ?_
  refine wal (i:=1) rfl (fun K hK => ?_)
  go_simp
  refine (fail_code 7 (by decide) (by decide) _).mono ?_
  rintro e w4 ⟨rfl,hb5⟩
  go_wp2_with fail
  refine hK.out _ _ (hHeld.below hb5) (fun hHeld => ?_)
  clear hK K
  try simp only [Act.put,wp1,wp2,wp3,wp4,wp5,wp6]
  refine wt3 (i:=2) rfl (by assumption) ?_
  refine wt3 (i:=3) rfl (by assumption) ?_
  refine wsk (i:=4) rfl (by assumption) ?_
  refine wsk (i:=5) rfl (by assumption) ?_
  refine wsk (i:=6) rfl (by assumption) ?_
  refine wsk (i:=7) rfl (by assumption) ?_
  refine wsk (i:=8) rfl (by assumption) ?_
  refine wsk (i:=9) rfl (by assumption) ?_
  refine wsk (i:=10) rfl (by assumption) ?_
  refine wsk (i:=11) rfl (by assumption) ?_
  refine wt3 (i:=12) rfl (by assumption) ?_
  refine wpAnyH_done (by kernel_rfl) ?_ _
  clear H1
  have H6:=Lib.hid hHeld
  clear hHeld
  have hw2:=Words.below HW.out (below_step (Below.refl _ _) H6.out.bel)
  have hcell:=hw2.2 7 (by omega)
  have hlt:=hw2.1
  clear hw2
  have F7:=H6.out.sees
  simp only [sees,kBlk,cellsAt,Nat.reduceAdd] at F7
  obtain ⟨⟨z0,c00,c01,c02,-⟩,-⟩:=F7
  go_wp2_with fail
  go_ret
  exact ⟨rfl,H6.out.bel⟩
 ·have h6:c≤6:=by omega
  have h7b:(c == 7)=false:=by simpa using h7
  go_enter Tryz.func15,Tryz.ntmps15
  go_wp2_with fail
  generalize (w.alloc (.cells #[.int .u8 4,.int .i64 c,.string ⟨#[]⟩] 23))=W2 at H1 ⊢
  refine wp_region_held_drew (S:=fun W=>Ok w [kBlk (w.heap.size) 23 [.int .u8 4,.int .i64 c,.string ⟨#[]⟩]] W) (by kernel_rfl) H1.out.drew (fun hHeld => ?_)
  refine wt3 (i:=0) rfl (by assumption) ?_
  refine wal (i:=1) rfl (fun K hK => ?_)
  go_simp
  refine (fail_code 7 (by decide) (by decide) _).mono ?_
  rintro e w4 ⟨rfl,hb5⟩
  go_wp2_with fail
  refine hK.out _ _ (hHeld.below hb5) (fun hHeld => ?_)
  clear hK K
  try simp only [Act.put,wp1,wp2,wp3,wp4,wp5,wp6]
  refine wt3 (i:=2) rfl (by assumption) ?_
  refine wt3 (i:=3) rfl (by assumption) ?_
  refine wt3 (i:=4) rfl (by assumption) ?_
  refine wt3 (i:=5) rfl (by assumption) ?_
  refine wt3 (i:=6) rfl (by assumption) ?_
  refine wt3 (i:=7) rfl (by assumption) ?_
  refine wt3 (i:=8) rfl (by assumption) ?_
  refine wal (i:=9) rfl (fun K hK => ?_)
  go_simp
  refine (check_err c h1 h6 _).mono ?_
  rintro e w6 ⟨rfl,hb7⟩
  go_wp2_with fail
  refine hK.out _ _ (hHeld.below hb7) (fun hHeld => ?_)
  clear hK K
  try simp only [Act.put,wp1,wp2,wp3,wp4,wp5,wp6]
  refine wt3 (i:=10) rfl (by assumption) ?_
  refine wt3 (i:=11) rfl (by assumption) ?_
  refine wt3 (i:=12) rfl (by assumption) ?_
  refine wpAnyH_done (by kernel_rfl) ?_ _
  clear H1
  have H8:=Lib.hid hHeld
  clear hHeld
  have hw2:=Words.below HW.out (below_step (Below.refl _ _) H8.out.bel)
  have hcell:=hw2.2 c.toNat (by omega)
  have hlt:=hw2.1
  have hct:((c.toNat:Nat):Int)=c:=by omega
  have hc7:c<8:=by omega
  clear hw2
  have F9:=H8.out.sees
  simp only [sees,kBlk,cellsAt,Nat.reduceAdd] at F9
  obtain ⟨⟨z0,c00,c01,c02,-⟩,-⟩:=F9
  go_wp2_with fail
  go_ret
  exact ⟨rfl,H8.out.bel⟩
end
section
open Go.RowKit
def strTab {H:Type} (zs:List (List UInt8)):DataW H:=.agg (zs.map fun z=>.lit (.string z))
theorem words_datum:(Rows.laid_louvre_val_words:DataW Unit)=strTab allNames:=by kernel_rfl
theorem words_name : Tryz.prog.globalNamed "louvre/val.words" = some 0 := by kernel_rfl
theorem words_type:(Tryz.prog.globals[0]?).map (·.type)=some 65:=by kernel_rfl
theorem words_cells:Tryz.prog.cellsOf 65=8:=by kernel_rfl
theorem word_cell:Tryz.prog.cellsOf 9=1:=by kernel_rfl
theorem cells_of_strs {H:Type} {enc:TypeId×Value→H} {P:Program} {w:World} {base:Nat} {sp:Nat→Bool} {held:Bool} {fuel:Nat} {t e:TypeId} {n:Nat} {cs:List Value} {zs:List (List UInt8)} {p:List MemPlace}
  (ht:P.underlying t=some (.array n e)) (he:P.underlying e=some .string) (hce:P.cellsOf e=1) (hct:P.cellsOf t=n)
  (h:DataW.trod enc P w base sp held fuel t cs=some (strTab zs,p)):cs=zs.map fun z=>Value.string ⟨z.toArray⟩:=by
 cases fuel with
 | zero=>simp [DataW.trod] at h
 | succ fuel =>
  simp only [DataW.trod,ht,hce,hct,Nat.mul_one] at h
  split at h
  ·rename_i hl
   obtain ⟨xs,hm,hx⟩:=Option.map_eq_some_iff.1 h
   have hxs:xs.map (·.1)=zs.map fun z=>(DataW.lit (.string z):DataW H):=by
    have:=congrArg Prod.fst hx
    simpa [strTab] using this
   have hxl:xs.length=n:=by simpa using Lib.mapM_length hm
   have hzl:zs.length=n:=by
    have:=congrArg List.length hxs
    simp at this
    omega
   apply List.ext_getElem?
   intro i
   by_cases hi:i<n
   ·obtain ⟨b,hb,hf⟩:=Lib.mapM_at hm i i (by simp [hi])
    have h2:(xs.map (·.1))[i]?=some b.1:=by simp [hb]
    rw [hxs] at h2
    simp only [List.getElem?_map,Option.map_eq_some_iff] at h2
    obtain ⟨z,hz,hzb⟩:=h2
    have h1:cs[i]?=some (.string ⟨z.toArray⟩):=by
     obtain ⟨b',hc,hb',_⟩:=DataW.trod_string he hf
     have h3:=hzb.symm▸congrArg Prod.fst hb'
     simp only [DataW.lit.injEq,Lit.string.injEq] at h3
     have h4:b'=⟨z.toArray⟩:=by rw [h3]
     rw [← h4]
     have:=congrArg (·[0]?) hc
     simpa [List.getElem?_take,List.getElem?_drop] using this
    simp [h1,hz]
   ·rw [List.getElem?_eq_none (by omega),List.getElem?_eq_none (by simp; omega)]
  ·cases h
theorem words_of {W : World} {l : List (String × DataW Unit)} (h : laidMetH Tryz.prog l W) (hl : l.filter (fun x => x.1 == "louvre/val.words") = [("louvre/val.words", Rows.laid_louvre_val_words)]) (_hS : W.ShapedOpen Tryz.prog) : Words W := by
 have h2 := h.filter (fun x => x.1 == "louvre/val.words")
 rw [hl,words_datum] at h2
 obtain ⟨ps,⟨g',t',cs,fuel,p,q,hg',ht',hvar,hd,_,_⟩,_⟩:=((laidMetH_iff ..).1 h2).1
 obtain rfl:=Option.some.inj (words_name.symm.trans hg')
 obtain rfl:=Option.some.inj (words_type.symm.trans ht')
 have hcs:=cells_of_strs Tryz.underlying65 Tryz.underlying9 word_cell words_cells hd
 have hc:∀ i<8,W.cell? ⟨0,i,none⟩=some (.string ⟨(allNames[i]?.getD []).toArray⟩):=by
  intro i hi
  have h9:=World.var?_cell words_name hvar i
  rw [← Array.getElem?_toList,hcs] at h9
  rw [h9]
  have h8:allNames.length=8:=by decide
  simp [List.getElem?_eq_getElem (show i<allNames.length by omega)]
 refine ⟨?_,hc⟩
 have:=World.block_lt_of_cell? W _ (hc 0 (by decide))
 simpa using this
end
