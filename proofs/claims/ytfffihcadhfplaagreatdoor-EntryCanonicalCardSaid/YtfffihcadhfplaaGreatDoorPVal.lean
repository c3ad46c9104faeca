/- Contracts of package val at errors. The table of the errors' names, off the row's condition. What the library's variables must hold: the names of the errors, the powers of ten, MaxLen. The rows' own conditions as facts of the world. Contracts of the reference's Column and Parse of addresses. -/
import Derived.Test.YtfffihcadhfplaaGreatDoorPAddrP
import Derived.Test.YtfffihcadhfplaaGreatDoorPIterV
import Derived.Test.YtfffihcadhfplaaGreatDoorPLexP
import Derived.Deep.DeepCutAuto
import Derived.Lib.LaidTab
import Derived.Stop.LaidErr
import Derived.LaidLaws
import Derived.LaidSub
import Derived.Test.YtfffihcadhfplaaGreatDoorPParP
import Derived.Test.YtfffihcadhfplaaGreatDoorPShelf
import Derived.Test.YtfffihcadhfplaaGreatDoorPAddP6
import Derived.Lib.IndexBytes
namespace Go.Proofs.YtfffihcadhfplaaGreatDoor
set_option maxRecDepth 100000
set_option maxHeartbeats 1000000
section
open Go.RowKit
def allNames:List (List UInt8):=[[],[35,68,73,86,47,48,33],[35,86,65,76,85,69,33],[35,78,85,77,33],[35,78,47,65],[35,82,69,70,33],[35,67,89,67,76,69,33],[35,68,69,78,73,69,68]]
def Words (w:World):Prop:=0+0<w.heap.size∧∀ i<8,w.cell? ⟨0,i,none⟩=some (.string ⟨(allNames[i]?.getD []).toArray⟩)
theorem Words.below {w w':World} (h:Words w) (hb:Below w.heap.size w w'):Words w' :=
 ⟨Nat.lt_of_lt_of_le h.1 hb.size,fun i hi=>cell_step hb (h.2 i hi)⟩
theorem fail_code (c:Int) (h1:1≤c) (h2:c≤7) (w:World) :
  Calls Tryz.prog 19 #[.int .i64 c] w fun e w'=>e=.returned (.agg #[.int .u8 4,.int .i64 c,.string ⟨#[]⟩])∧Below w.heap.size w w':=by
 have H0:=Lib.hid (Ok.start w)
 have hc:¬ c<1:=by omega
 have hc2:¬ c>7:=by omega
 go_enter Tryz.func19,Tryz.ntmps19
 go_upto_region 1 with fail
 have H1:=Lib.hid (H0.out.var w.heap.size 23 [.int .u8 0,.int .i64 0,.string ⟨#[]⟩] rfl)
 clear H0
 generalize (w.alloc (.cells #[.int .u8 0,.int .i64 0,.string ⟨#[]⟩] 23))=W2 at H1 ⊢
 have F3:=H1.out.sees
 simp only [sees,kVar,cellsAt,Nat.reduceAdd] at F3
 obtain ⟨⟨⟨z0,fz0⟩,c00,c01,c02,-⟩,-⟩:=F3
 go_wp2_with fail
 have hK:=H1.out.get (kVar (w.heap.size) 23 [.int .u8 0,.int .i64 0,.string ⟨#[]⟩]) (by simp)
 have hB:=H1.out.bel
 have hE:=((((show Blk W2 (w.heap.size) 23 _ from hK).set_ 0 (.int .u8 4)).set_ 1 (.int .i64 c)).set_ 2 (.string ⟨#[]⟩))
 have r0:=hE.cell 0
 have r1:=hE.cell 1
 have r2:=hE.cell 2
 simp at r0 r1 r2
 refine bodyPost_ret (v:=.agg #[.int .u8 4,.int .i64 c,.string ⟨#[]⟩]) (by simp [results,Tryz.results19,go_sem,r0,r1,r2]) rfl ⟨rfl,(((hB.setCell (by simp) _).setCell (by simp) _).setCell (by simp) _)⟩
theorem check_err (c:Int) (h1:1≤c) (h2:c≤6) (w:World) :
  Calls Tryz.prog 14 #[.agg #[.int .u8 4,.int .i64 c,.string ⟨#[]⟩]] w fun e w'=>e=.returned (.int .i64 0)∧Below w.heap.size w w':=by
 have H1:=Lib.hid ((Ok.start w).alloc w.heap.size 23 [.int .u8 4,.int .i64 c,.string ⟨#[]⟩] rfl)
 have hc:(1:Int)≤c:=h1
 go_enter Tryz.func14,Tryz.ntmps14
 go_wp2_with fail
 generalize (w.alloc (.cells #[.int .u8 4,.int .i64 c,.string ⟨#[]⟩] 23))=W2 at H1 ⊢
 go_ret
 exact ⟨rfl,H1.out.bel⟩
theorem show_err (c:Int) (h1:1≤c) (h2:c≤7) (w:World) (hw:Words w) :
  Calls Tryz.prog 15 #[.agg #[.int .u8 4,.int .i64 c,.string ⟨#[]⟩]] w fun e w'=>e=.returned (.string ⟨(allNames[c.toNat]?.getD []).toArray⟩)∧Below w.heap.size w w':=by
 have HW:=Lib.hid hw
 clear hw
 have H1:=Lib.hid ((Ok.start w).alloc w.heap.size 23 [.int .u8 4,.int .i64 c,.string ⟨#[]⟩] rfl)
 by_cases h7:c=7
 ·subst h7
  go_enter Tryz.func15,Tryz.ntmps15
  go_wp2_with fail
  generalize (w.alloc (.cells #[.int .u8 4,.int .i64 7,.string ⟨#[]⟩] 23))=W2 at H1 ⊢
  refine wp_region_held_drew (S:=fun W=>Ok w [kBlk (w.heap.size) 23 [.int .u8 4,.int .i64 7,.string ⟨#[]⟩]] W) (by kernel_rfl) H1.out.drew (fun hHeld => ?_)
  refine wt3 (i:=0) rfl (by assumption) ?_
  refine wal (i:=1) rfl (fun K hK => ?_)
  go_simp
  refine (fail_code 7 (by decide) (by decide) _).mono ?_
  rintro e w4 ⟨rfl,hb5⟩
  go_wp2_with fail
  refine hK.out _ _ (hHeld.below hb5) (fun hHeld => ?_)
  clear hK K
  try simp only [Act.put,wp1,wp2,wp3,wp4,wp5,wp6]
  refine wt3 (i:=2) rfl (by assumption) ?_
  refine wt3 (i:=3) rfl (by assumption) ?_
  refine wsk (i:=4) rfl (by assumption) ?_
  refine wsk (i:=5) rfl (by assumption) ?_
  refine wsk (i:=6) rfl (by assumption) ?_
  refine wsk (i:=7) rfl (by assumption) ?_
  refine wsk (i:=8) rfl (by assumption) ?_
  refine wsk (i:=9) rfl (by assumption) ?_
  refine wsk (i:=10) rfl (by assumption) ?_
  refine wsk (i:=11) rfl (by assumption) ?_
  refine wt3 (i:=12) rfl (by assumption) ?_
  refine wpAnyH_done (by kernel_rfl) ?_ _
  clear H1
  have H6:=Lib.hid hHeld
  clear hHeld
  have hw2:=Words.below HW.out (below_step (Below.refl _ _) H6.out.bel)
  have hcell:=hw2.2 7 (by omega)
  have hlt:=hw2.1
  clear hw2
  have F7:=H6.out.sees
  simp only [sees,kBlk,cellsAt,Nat.reduceAdd] at F7
  obtain ⟨⟨z0,c00,c01,c02,-⟩,-⟩:=F7
  go_wp2_with fail
  go_ret
  exact ⟨rfl,H6.out.bel⟩
 ·have h6:c≤6:=by omega
  have h7b:(c == 7)=false:=by simpa using h7
  go_enter Tryz.func15,Tryz.ntmps15
  go_wp2_with fail
  generalize (w.alloc (.cells #[.int .u8 4,.int .i64 c,.string ⟨#[]⟩] 23))=W2 at H1 ⊢
  refine wp_region_held_drew (S:=fun W=>Ok w [kBlk (w.heap.size) 23 [.int .u8 4,.int .i64 c,.string ⟨#[]⟩]] W) (by kernel_rfl) H1.out.drew (fun hHeld => ?_)
  refine wt3 (i:=0) rfl (by assumption) ?_
  refine wal (i:=1) rfl (fun K hK => ?_)
  go_simp
  refine (fail_code 7 (by decide) (by decide) _).mono ?_
  rintro e w4 ⟨rfl,hb5⟩
  go_wp2_with fail
  refine hK.out _ _ (hHeld.below hb5) (fun hHeld => ?_)
  clear hK K
  try simp only [Act.put,wp1,wp2,wp3,wp4,wp5,wp6]
  refine wt3 (i:=2) rfl (by assumption) ?_
  refine wt3 (i:=3) rfl (by assumption) ?_
  refine wt3 (i:=4) rfl (by assumption) ?_
  refine wt3 (i:=5) rfl (by assumption) ?_
  refine wt3 (i:=6) rfl (by assumption) ?_
  refine wt3 (i:=7) rfl (by assumption) ?_
  refine wt3 (i:=8) rfl (by assumption) ?_
  refine wal (i:=9) rfl (fun K hK => ?_)
  go_simp
  refine (check_err c h1 h6 _).mono ?_
  rintro e w6 ⟨rfl,hb7⟩
  go_wp2_with fail
  refine hK.out _ _ (hHeld.below hb7) (fun hHeld => ?_)
  clear hK K
  try simp only [Act.put,wp1,wp2,wp3,wp4,wp5,wp6]
  refine wt3 (i:=10) rfl (by assumption) ?_
  refine wt3 (i:=11) rfl (by assumption) ?_
  refine wt3 (i:=12) rfl (by assumption) ?_
  refine wpAnyH_done (by kernel_rfl) ?_ _
  clear H1
  have H8:=Lib.hid hHeld
  clear hHeld
  have hw2:=Words.below HW.out (below_step (Below.refl _ _) H8.out.bel)
  have hcell:=hw2.2 c.toNat (by omega)
  have hlt:=hw2.1
  have hct:((c.toNat:Nat):Int)=c:=by omega
  have hc7:c<8:=by omega
  clear hw2
  have F9:=H8.out.sees
  simp only [sees,kBlk,cellsAt,Nat.reduceAdd] at F9
  obtain ⟨⟨z0,c00,c01,c02,-⟩,-⟩:=F9
  go_wp2_with fail
  go_ret
  exact ⟨rfl,H8.out.bel⟩
end
section
open Go.RowKit
def strTab {H:Type} (zs:List (List UInt8)):DataW H:=.agg (zs.map fun z=>.lit (.string z))
theorem words_datum:(Rows.laid_louvre_val_words:DataW Unit)=strTab allNames:=by kernel_rfl
theorem words_name : Tryz.prog.globalNamed "louvre/val.words" = some 0 := by kernel_rfl
theorem words_type:(Tryz.prog.globals[0]?).map (·.type)=some 65:=by kernel_rfl
theorem words_cells:Tryz.prog.cellsOf 65=8:=by kernel_rfl
theorem word_cell:Tryz.prog.cellsOf 9=1:=by kernel_rfl
theorem cells_of_strs {H:Type} {enc:TypeId×Value→H} {P:Program} {w:World} {base:Nat} {sp:Nat→Bool} {held:Bool} {fuel:Nat} {t e:TypeId} {n:Nat} {cs:List Value} {zs:List (List UInt8)} {p:List MemPlace}
  (ht:P.underlying t=some (.array n e)) (he:P.underlying e=some .string) (hce:P.cellsOf e=1) (hct:P.cellsOf t=n)
  (h:DataW.trod enc P w base sp held fuel t cs=some (strTab zs,p)):cs=zs.map fun z=>Value.string ⟨z.toArray⟩:=by
 cases fuel with
 | zero=>simp [DataW.trod] at h
 | succ fuel =>
  simp only [DataW.trod,ht,hce,hct,Nat.mul_one] at h
  split at h
  ·rename_i hl
   obtain ⟨xs,hm,hx⟩:=Option.map_eq_some_iff.1 h
   have hxs:xs.map (·.1)=zs.map fun z=>(DataW.lit (.string z):DataW H):=by
    have:=congrArg Prod.fst hx
    simpa [strTab] using this
   have hxl:xs.length=n:=by simpa using Lib.mapM_length hm
   have hzl:zs.length=n:=by
    have:=congrArg List.length hxs
    simp at this
    omega
   apply List.ext_getElem?
   intro i
   by_cases hi:i<n
   ·obtain ⟨b,hb,hf⟩:=Lib.mapM_at hm i i (by simp [hi])
    have h2:(xs.map (·.1))[i]?=some b.1:=by simp [hb]
    rw [hxs] at h2
    simp only [List.getElem?_map,Option.map_eq_some_iff] at h2
    obtain ⟨z,hz,hzb⟩:=h2
    have h1:cs[i]?=some (.string ⟨z.toArray⟩):=by
     obtain ⟨b',hc,hb',_⟩:=DataW.trod_string he hf
     have h3:=hzb.symm▸congrArg Prod.fst hb'
     simp only [DataW.lit.injEq,Lit.string.injEq] at h3
     have h4:b'=⟨z.toArray⟩:=by rw [h3]
     rw [← h4]
     have:=congrArg (·[0]?) hc
     simpa [List.getElem?_take,List.getElem?_drop] using this
    simp [h1,hz]
   ·rw [List.getElem?_eq_none (by omega),List.getElem?_eq_none (by simp; omega)]
  ·cases h
theorem words_of {W : World} {l : List (String × DataW Unit)} (h : laidMetH Tryz.prog l W) (hl : l.filter (fun x => x.1 == "louvre/val.words") = [("louvre/val.words", Rows.laid_louvre_val_words)]) (_hS : W.ShapedOpen Tryz.prog) : Words W := by
 have h2 := h.filter (fun x => x.1 == "louvre/val.words")
 rw [hl,words_datum] at h2
 obtain ⟨ps,⟨g',t',cs,fuel,p,q,hg',ht',hvar,hd,_,_⟩,_⟩:=((laidMetH_iff ..).1 h2).1
 obtain rfl:=Option.some.inj (words_name.symm.trans hg')
 obtain rfl:=Option.some.inj (words_type.symm.trans ht')
 have hcs:=cells_of_strs Tryz.underlying65 Tryz.underlying9 word_cell words_cells hd
 have hc:∀ i<8,W.cell? ⟨0,i,none⟩=some (.string ⟨(allNames[i]?.getD []).toArray⟩):=by
  intro i hi
  have h9:=World.var?_cell words_name hvar i
  rw [← Array.getElem?_toList,hcs] at h9
  rw [h9]
  have h8:allNames.length=8:=by decide
  simp [List.getElem?_eq_getElem (show i<allNames.length by omega)]
 refine ⟨?_,hc⟩
 have:=World.block_lt_of_cell? W _ (hc 0 (by decide))
 simpa using this
end
open Go.RowKit
def WEnv (w:World):Prop:=Words w∧Pow w∧∃ m,w.cell? ⟨1,0,none⟩=some (.int .i64 m)
theorem WEnv.below {w w':World} (h:WEnv w) (hb:Below w.heap.size w w'):WEnv w' :=
 ⟨h.1.below hb,h.2.1.below hb,h.2.2.imp fun _ hm=>cell_step hb hm⟩
theorem env10_of {W:World} {l:List (String×DataW Unit)} (h:laidMetH Tryz.prog l W) (hS:W.ShapedOpen Tryz.prog)
  (hl : l.filter (fun x => x.1 == "louvre/val.words") = [("louvre/val.words", Rows.laid_louvre_val_words)])
  (hp : l.filter (fun x => x.1 == "internal/strconv.uint64pow10") = [("internal/strconv.uint64pow10", Rows.laid_internal_strconv_uint64pow10)]) : WEnv W :=
 ⟨words_of h hl hS,pow_of_laid h hp,Tryz.laysM143.s1_3 W hS⟩
