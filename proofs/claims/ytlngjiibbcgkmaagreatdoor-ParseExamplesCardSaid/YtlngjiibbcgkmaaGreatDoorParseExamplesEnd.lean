/- ParseExamples of louvre: for every input the law returns true, and each argument reads afterwards as it read before. It is closed here from its walk; conditions: those of the given row. -/
import Derived.Below
import Derived.ChangeOld
import Derived.Deep.DeepHandedRow
import Derived.Deep.DeepWitnessRowRef
import Derived.Lib.LaidTab
import Derived.Lib.SmallJoins
import Derived.OpenShut
import Derived.ProofKit
import Derived.ShutString
import Derived.SizedLaws
import Derived.Test.YtlngjiibbcgkmaaGreatDoorCards
import Derived.Test.YtlngjiibbcgkmaaGreatDoorParL
import Derived.Test.YtlngjiibbcgkmaaGreatDoorTie
import Derived.WalkKit
namespace Go.Proofs.YtlngjiibbcgkmaaGreatDoor
open Go.RowKit
theorem law_ParseBinds (op : Int) (w : World) (he : Words w) :
  Calls Tryz.prog 16 #[.int .i64 op] w fun e w' => e = .returned (.bool true) ∧ Below w.heap.size w w':=by
 have HW:=keep he
 clear he
 have HB1:=keep (parse_Binds op w)
 have HB2:=keep (r_Binds op w)
 obtain ⟨x,hx⟩ : ∃ x : Int,((bindS op : Nat) : Int) = x:=⟨_,rfl⟩
 obtain ⟨y,hy⟩ : ∃ y,isPow op = y:=⟨_,rfl⟩
 obtain ⟨z,hz⟩ : ∃ z,bindE op = z:=⟨_,rfl⟩
 rw [hx,hy,hz] at HB1 HB2
 clear hx hy hz
 go_enter Tryz.func16,Tryz.ntmps16
 go_wp2_with fail
 refine HB1.out.mono ?_
 rintro e w1 ⟨rfl,hw⟩
 obtain rfl : w = w1:=hw.symm
 go_wp2_with fail
 refine HB2.out.mono ?_
 rintro e w1 ⟨rfl,hw⟩
 obtain rfl : w = w1:=hw.symm
 go_wp2_with fail
 refine (law_awake9 w HW.out).mono ?_
 rintro e w1 ⟨rfl,hb⟩
 have HB:=Lib.hid hb
 clear hb
 go_wp2_with fail
 go_ret
 exact ⟨rfl,HB.out⟩
set_option maxHeartbeats 1000000 in
theorem law9_repeat (s : ByteArray) (n : Int) (w : World) (hs : s.size ≤ 30) (hn : n ≤ 300) (h0 : -1000 ≤ n) :
  Calls Tryz.prog 15 #[.string s,.int .i64 n] w fun e w' => ∃ t : ByteArray,e = .returned (.string t) ∧ t.size ≤ 9000 ∧ w' = w:=by
 go_enter Tryz.func15,Tryz.ntmps15
 go_wp2_with fail
 go_loopw [5,6] (fun tv iv wr => ∃ (t : ByteArray) (i : Nat),tv = .string t ∧ iv = .int .i64 (i : Int) ∧ (i : Int) ≤ max n 0 ∧ t.size ≤ i * 30 ∧ wr = w) (fun _ iv _ => (n - intOf iv).toNat)
 case atStart => exact ⟨⟨#[]⟩,0,rfl,rfl,by omega,Nat.le_refl _,rfl⟩
 case round =>
  obtain ⟨t,i,rfl,rfl,hi,ht,hwr⟩:=hrel
  obtain rfl : w = wr:=hwr.symm
  have ht2 : t.size ≤ 9000:=by omega
  by_cases hlt : (i : Int) < n
  ·have hcat : t.size + s.size ≤ 9030:=by omega
   have hw9 : IntKind.i64.wrap ((i : Int) + 1) = (i : Int) + 1:=Go.IntWalk.i64_in _ (by omega)
   go_wp2_with fail
   go_roundw
   case rel => exact ⟨t ++ s,i + 1,rfl,by go_num,by omega,by rw [ByteArray.size_append]; omega,by first | trivial | rfl⟩
   case measure => simp [intOf]; omega
  ·go_wp2_with fail
   go_ret
   exact ⟨t,rfl,ht2,rfl⟩
def isStr9 : Value → Bool
 | .string s => decide (s.size ≤ 30)
 | _ => false
theorem str_at9 {w : World} {g : Nat} {cs : List Value} {n : Nat} (h : Blk w g 9 cs.toArray) (hc : cs.all isStr9 = true) (hn : cs.length = n) (i : Nat) (hi : i < n) :
  ∃ s : ByteArray,s.size ≤ 30 ∧ w.cell? ⟨g,i,none⟩ = some (.string s):=by
 have h1:=h.cell i
 have h2 : cs[i]? = some (cs[i]'(by omega)):=List.getElem?_eq_getElem _
 have h3:=List.all_eq_true.1 hc (cs[i]'(by omega)) (List.getElem_mem _)
 rw [List.getElem?_toArray,h2] at h1
 cases h4 : cs[i]'(by omega) with
 | string s =>
  rw [h4] at h1 h3
  exact ⟨s,of_decide_eq_true h3,h1⟩
 | _ => rw [h4] at h3; cases h3
section
variable {P : Program} {md : Region.Mode} {ops : Array Oper} {Q : Exit → Act → World → Prop} {i : Nat} {oi : Oper} {v : Value} {fuel : Nat} {listed : Array Bool} {a a' : Act} {w w0 : World} {ps : List Pers}
theorem tx (hi : ops[i]? = some oi) (hS : Ok w0 ps w)
  (h : wpAnyH P md ops Q (fun W => Ok w0 ps W) fuel (listed.setIfInBounds i true) a' w)
  (hy : ∀ W,Ok w0 ps W → (execOp a.eval oi).run P W = .ok (.value v) W:=by (intro w hSw; have F:=Ok.sees hSw; clear hSw; simp only [sees,kCells,kBlk,cellsFrom,Nat.add_zero] at F; go_simp; (try simp only [hw7,hw8]); (try rw [if_neg (by omega)]); (try rw [if_pos ⟨hj0,hj1⟩]); (try simp only [Int.toNat_natCast]); try with_reducible rfl))
  (ha : a.put oi.dst v = a':=by ((try simp only [Act.put,List.setIfInBounds_toArray,List.set_cons_zero,List.set_cons_succ,List.getElem_toArray,List.getElem_cons_succ,List.getElem_cons_zero]); exact rfl))
  (hs : Region.noSelect ops = true:=by kernel_rfl) (hf : Region.free md ops listed i = true:=by kernel_rfl) (hr : (Region.ready md ops listed).contains i = true:=by kernel_rfl)
  (hQ : ∀ c a w,Q (.panic c) (a.put oi.dst v) w → Q (.panic c) a w:=by exact fun _ _ _ h => h) (hw : Region.wanted oi (yielded ops a.tmps) = true:=by rfl) : wpAnyH P md ops Q (fun W => Ok w0 ps W) (fuel + 1) listed a w :=
 wpAnyH_take hi hs hf hr hQ (.inl ⟨hw,hy⟩) hS (ha ▸ h)
end
def all9 : List Value:=[.string ⟨#[]⟩,.string ⟨#[49,43,50,42,51]⟩,.string ⟨#[40,49,43,50,41,42,51]⟩,.string ⟨#[49,45,50,45,51]⟩,.string ⟨#[45,50,94,50]⟩,.string ⟨#[50,94,45,49]⟩,.string ⟨#[50,94,51,94,50]⟩,.string ⟨#[53,37,37]⟩,.string ⟨#[65,49,61,66,49,38,67,49]⟩,.string ⟨#[105,102,40,65,49,62,48,44,34,120,34,41]⟩,.string ⟨#[83,85,77,40,65,49,58,66,50,44,65,49,41]⟩,.string ⟨#[83,85,77,40,65,49,58,66,50,43,49,41]⟩,.string ⟨#[83,85,77,40,40,65,49,58,66,50,41,41]⟩,.string ⟨#[65,49,58,66,50]⟩,.string ⟨#[65,66,83,40,65,49,58,66,50,41]⟩,.string ⟨#[49,43]⟩,.string ⟨#[49,32,50]⟩,.string ⟨#[40,49]⟩,.string ⟨#[49,41]⟩,.string ⟨#[40,41]⟩,.string ⟨#[70,79,79,40,49,41]⟩,.string ⟨#[70,79,79,40]⟩,.string ⟨#[65,66,83,40,41]⟩,.string ⟨#[49,43,65,66,83,40,49,44,50,41]⟩,.string ⟨#[68,83,85,77,40,49,41]⟩,.string ⟨#[68,83,85,77,40,65,49,41]⟩,.string ⟨#[68,83,85,77,40,40,65,49,41,41]⟩,.string ⟨#[68,83,85,77,40,65,49,58,66,50,41]⟩,.string ⟨#[68,83,85,77,40,65,49,58,66,50,44,65,49,41]⟩,.string ⟨#[68,83,85,77,40,65,49,58,66,50,43,49,41]⟩,.string ⟨#[83,85,77,40,44,49,41]⟩,.string ⟨#[83,85,77,40,49,44,41]⟩,.string ⟨#[77,65,84,67,72,40,65,49,58,66,50,44,49,41]⟩,.string ⟨#[77,65,84,67,72,40,49,44,65,49,58,66,50,41]⟩,.string ⟨#[77,65,84,67,72,40,49,44,65,49,58,66,50,44,65,49,58,66,50,41]⟩,.string ⟨#[45,45,49]⟩,.string ⟨#[43,49]⟩,.string ⟨#[49,45,45,49]⟩,.string ⟨#[45,49,37]⟩,.string ⟨#[50,94,45,51,37]⟩,.string ⟨#[37]⟩,.string ⟨#[84,82,85,69,38,35,78,47,65]⟩,.string ⟨#[35,82,69,70,33,61,49]⟩,.string ⟨#[34,97,34,34,98,34]⟩,.string ⟨#[73,78,68,69,88,40,65,49,58,66,50,44,49]⟩,.string ⟨#[73,78,68,69,88,40,65,49,58,66,50,32,49,41]⟩,.string ⟨#[97,49,43,98,50]⟩,.string ⟨#[67,72,79,79,83,69,40,49,41]⟩,.string ⟨#[49,60,50,60,51]⟩,.string ⟨#[115,117,109,40,83,85,77,40,115,117,109,40,49,41,41,41]⟩]
def ops9 : List Value:=[.string ⟨#[43]⟩,.string ⟨#[45]⟩,.string ⟨#[42]⟩,.string ⟨#[47]⟩,.string ⟨#[94]⟩,.string ⟨#[38]⟩,.string ⟨#[61]⟩,.string ⟨#[60,62]⟩,.string ⟨#[60]⟩,.string ⟨#[60,61]⟩,.string ⟨#[62]⟩,.string ⟨#[62,61]⟩,.string ⟨#[37]⟩]
set_option maxRecDepth 100000 in
set_option maxHeartbeats 16000000 in
theorem law_ParseExamples (w : World) (he : Words w) :
  Calls Tryz.prog 4 #[] w fun e w' => e = .returned (.bool true) ∧ Below w.heap.size w w':=by
 have HE:=keep he
 clear he
 have H0:=Lib.hid (Ok.start w)
 go_enter Tryz.func4,Tryz.ntmps4
 go_upto_region 2 with fail
 have H1:=Lib.hid (H0.out.alloc w.heap.size 9 all9 rfl)
 clear H0
 rw [← all9.eq_1]
 have HS:=keep (show all9.all isStr9 = true by decide)
 have HAL:=keep (show all9.length = 50 from rfl)
 generalize all9 = AS at H1 HS HAL ⊢
 generalize (w.alloc (.cells AS.toArray 9)) = W1 at H1 ⊢
 go_wp2_with fail
 go_loopw [2] (fun iv wr => ∃ i : Nat,i ≤ 50 ∧ iv = .int .i64 (i : Int) ∧ Hid (Ok w [kBlk w.heap.size 9 AS] wr)) (fun iv _ => 50 - (intOf iv).toNat)
 case atStart => exact ⟨0,Nat.zero_le _,rfl,H1⟩
 case round =>
  clear H1
  obtain ⟨i,hi,rfl,HR⟩:=hrel
  obtain ⟨wp,rfl⟩ : ∃ wp : World,wp = wr:=⟨_,rfl⟩
  have hblk : Blk wp w.heap.size 9 AS.toArray:=HR.out.get (kBlk w.heap.size 9 AS) (by simp)
  by_cases hlt : (i : Int) < 50
  ·obtain ⟨j,hj⟩ : ∃ j,49 - i = j:=⟨_,rfl⟩
   have hj41 : j < 50:=by omega
   have hjm : (49 : Int) - (i : Int) = (j : Int):=by omega
   obtain ⟨s1,hs1,c1⟩:=str_at9 hblk HS.out HAL.out i (by omega)
   obtain ⟨s2,hs2,c2⟩:=str_at9 hblk HS.out HAL.out j hj41
   have hlt9:=World.block_lt_of_cell? wp _ c1
   have H2:=Lib.hid ((HR.out.add (kCells w.heap.size i [.string s1]) ⟨hlt9,c1,trivial⟩).add (kCells w.heap.size j [.string s2]) ⟨hlt9,c2,trivial⟩)
   have hw9 : IntKind.i64.wrap (j : Int) = (j : Int):=Go.IntWalk.i64_in _ (by omega)
   have hw8 : IntKind.i64.wrap ((49 : Int) - (i : Int)) = (j : Int):=by rw [hjm]; exact hw9
   have hw7 : IntKind.i64.wrap 49 = 49:=by decide
   have hj0 : (0 : Int) ≤ (j : Int):=by omega
   have hj1 : (j : Int) < 50:=by omega
   have hcat : s1.size + s2.size ≤ 60:=by omega
   clear hblk c1 c2 hj
   go_upto_region 5 with fail
   refine wp_region_held_drew (S:=fun W => Ok w [kCells w.heap.size j [.string s2],kCells w.heap.size i [.string s1],kBlk w.heap.size 9 AS] W) (by kernel_rfl) H2.out.drew (fun hHeld => ?_)
   refine tx (i:=0) rfl (by assumption) ?_
   refine tx (i:=1) rfl (by assumption) ?_
   refine tx (i:=2) rfl (by assumption) ?_
   refine tx (i:=3) rfl (by assumption) ?_
   refine wpAnyH_ready (rs:=[4]) (by kernel_rfl) (by simp) ?_
   refine AllReadyH.cons rfl (fun K hK => ?_) AllReadyH.nil
   go_simp
   refine (law_ParseFormulas _ _ (HE.out.below hHeld.bel)).mono ?_
   rintro e w2 ⟨rfl,hb3⟩
   go_wp2_with fail
   refine hK.out _ _ (hHeld.below hb3) (fun hHeld => ?_)
   clear hK K
   try simp only [Act.put,p1,p2,p3,p4,p5,p6]
   refine tx (i:=5) rfl (by assumption) ?_
   refine tx (i:=6) rfl (by assumption) ?_
   refine tx (i:=7) rfl (by assumption) ?_
   refine tx (i:=8) rfl (by assumption) ?_
   refine tx (i:=9) rfl (by assumption) ?_
   refine tx (i:=10) rfl (by assumption) ?_
   refine tx (i:=11) rfl (by assumption) ?_
   refine tx (i:=12) rfl (by assumption) ?_
   refine wpAnyH_ready (rs:=[13]) (by kernel_rfl) (by simp) ?_
   refine AllReadyH.cons rfl (fun K hK => ?_) AllReadyH.nil
   go_simp
   refine (law_ParseFormulas _ _ (HE.out.below hHeld.bel)).mono ?_
   rintro e w4 ⟨rfl,hb5⟩
   go_wp2_with fail
   refine hK.out _ _ (hHeld.below hb5) (fun hHeld => ?_)
   clear hK K
   try simp only [Act.put,p1,p2,p3,p4,p5,p6]
   refine tx (i:=14) rfl (by assumption) ?_
   refine tx (i:=15) rfl (by assumption) ?_
   refine tx (i:=16) rfl (by assumption) ?_
   refine tx (i:=17) rfl (by assumption) ?_
   refine tx (i:=18) rfl (by assumption) ?_
   refine tx (i:=19) rfl (by assumption) ?_
   refine tx (i:=20) rfl (by assumption) ?_
   refine tx (i:=21) rfl (by assumption) ?_
   refine tx (i:=22) rfl (by assumption) ?_
   refine wpAnyH_ready (rs:=[23]) (by kernel_rfl) (by simp) ?_
   refine AllReadyH.cons rfl (fun K hK => ?_) AllReadyH.nil
   go_simp
   refine (law_ParseFormulas _ _ (HE.out.below hHeld.bel)).mono ?_
   rintro e w6 ⟨rfl,hb7⟩
   go_wp2_with fail
   refine hK.out _ _ (hHeld.below hb7) (fun hHeld => ?_)
   clear hK K
   try simp only [Act.put,p1,p2,p3,p4,p5,p6]
   refine tx (i:=24) rfl (by assumption) ?_
   refine tx (i:=25) rfl (by assumption) ?_
   refine tx (i:=26) rfl (by assumption) ?_
   refine tx (i:=27) rfl (by assumption) ?_
   refine tx (i:=28) rfl (by assumption) ?_
   refine tx (i:=29) rfl (by assumption) ?_
   refine tx (i:=30) rfl (by assumption) ?_
   refine tx (i:=31) rfl (by assumption) ?_
   refine tx (i:=32) rfl (by assumption) ?_
   refine wpAnyH_ready (rs:=[33]) (by kernel_rfl) (by simp) ?_
   refine AllReadyH.cons rfl (fun K hK => ?_) AllReadyH.nil
   go_simp
   refine (law_ParseFormulas _ _ (HE.out.below hHeld.bel)).mono ?_
   rintro e w8 ⟨rfl,hb9⟩
   go_wp2_with fail
   refine hK.out _ _ (hHeld.below hb9) (fun hHeld => ?_)
   clear hK K
   try simp only [Act.put,p1,p2,p3,p4,p5,p6]
   refine tx (i:=34) rfl (by assumption) ?_
   refine tx (i:=35) rfl (by assumption) ?_
   refine tx (i:=36) rfl (by assumption) ?_
   refine tx (i:=37) rfl (by assumption) ?_
   refine tx (i:=38) rfl (by assumption) ?_
   refine tx (i:=39) rfl (by assumption) ?_
   refine tx (i:=40) rfl (by assumption) ?_
   refine tx (i:=41) rfl (by assumption) ?_
   refine tx (i:=42) rfl (by assumption) ?_
   refine tx (i:=43) rfl (by assumption) ?_
   refine tx (i:=44) rfl (by assumption) ?_
   refine tx (i:=45) rfl (by assumption) ?_
   refine tx (i:=46) rfl (by assumption) ?_
   refine tx (i:=47) rfl (by assumption) ?_
   refine tx (i:=48) rfl (by assumption) ?_
   refine tx (i:=49) rfl (by assumption) ?_
   refine tx (i:=50) rfl (by assumption) ?_
   refine wpAnyH_ready (rs:=[51]) (by kernel_rfl) (by simp) ?_
   refine AllReadyH.cons rfl (fun K hK => ?_) AllReadyH.nil
   go_simp
   refine (law_ParseFormulas _ _ (HE.out.below hHeld.bel)).mono ?_
   rintro e w10 ⟨rfl,hb11⟩
   go_wp2_with fail
   refine hK.out _ _ (hHeld.below hb11) (fun hHeld => ?_)
   clear hK K
   try simp only [Act.put,p1,p2,p3,p4,p5,p6]
   refine tx (i:=52) rfl (by assumption) ?_
   refine tx (i:=53) rfl (by assumption) ?_
   refine wpAnyH_done (by kernel_rfl) ?_ _
   clear H2
   have H12:=Lib.hid hHeld
   clear hHeld
   go_wp2_with fail
   go_roundw
   case rel => exact ⟨i + 1,by omega,by go_num,Lib.hid (H12.out.drop _ (by simp))⟩
   case measure => simp [intOf]; omega
  ·clear hblk
   have HB:=Lib.hid HR.out.bel
   clear HR HS HAL
   go_upto_region 8 with fail
   have HO:=Lib.hid (show Ok w [] wp from ⟨HB.out,fun _ h => absurd h (by simp)⟩)
   clear HB
   have H1:=Lib.hid (HO.out.alloc wp.heap.size 9 ops9 rfl)
   clear HO
   rw [← ops9.eq_1]
   have HS:=keep (show ops9.all isStr9 = true by decide)
   have HAL:=keep (show ops9.length = 13 from rfl)
   generalize ops9 = OS at H1 HS HAL ⊢
   generalize (wp.alloc (.cells OS.toArray 9)) = W2 at H1 ⊢
   obtain ⟨ob,hob⟩ : ∃ ob,wp.heap.size = ob:=⟨_,rfl⟩
   rw [hob] at H1 ⊢
   clear hob
   go_wp2_with fail
   go_loopw [4] (fun iv wr => ∃ i : Nat,i ≤ 13 ∧ iv = .int .i64 (i : Int) ∧ Hid (Ok w [kBlk ob 9 OS] wr)) (fun iv _ => 13 - (intOf iv).toNat)
   case atStart => exact ⟨0,Nat.zero_le _,rfl,H1⟩
   case round =>
    clear H1
    obtain ⟨i,hi,rfl,HR⟩:=hrel
    obtain ⟨wq,rfl⟩ : ∃ wq : World,wq = wr:=⟨_,rfl⟩
    by_cases hlt : (i : Int) < 13
    ·go_wp2_with fail
     go_loopw [5] (fun iv wr => ∃ j : Nat,j ≤ 13 ∧ iv = .int .i64 (j : Int) ∧ Hid (Ok w [kBlk ob 9 OS] wr)) (fun iv _ => 13 - (intOf iv).toNat)
     case atStart => exact ⟨0,Nat.zero_le _,rfl,HR⟩
     case round =>
      clear HR
      obtain ⟨j,hj,rfl,HR⟩:=hrel
      obtain ⟨wv,rfl⟩ : ∃ wv : World,wv = wr:=⟨_,rfl⟩
      by_cases hlj : (j : Int) < 13
      ·have hblk : Blk wv ob 9 OS.toArray:=HR.out.get (kBlk ob 9 OS) (by simp)
       obtain ⟨s1,hs1,c1⟩:=str_at9 hblk HS.out HAL.out i (by omega)
       obtain ⟨s2,hs2,c2⟩:=str_at9 hblk HS.out HAL.out j (by omega)
       have hlt9:=World.block_lt_of_cell? wv _ c1
       have H2:=Lib.hid ((HR.out.add (kCells ob i [.string s1]) ⟨hlt9,c1,trivial⟩).add (kCells ob j [.string s2]) ⟨hlt9,c2,trivial⟩)
       have hcat : s1.size + s2.size ≤ 60:=by omega
       clear hblk c1 c2 hlt9
       go_upto_region 14 with fail
       refine wp_region_held_drew (S:=fun W => Ok w [kCells ob j [.string s2],kCells ob i [.string s1],kBlk ob 9 OS] W) (by kernel_rfl) H2.out.drew (fun hHeld => ?_)
       refine tx (i:=0) rfl (by assumption) ?_
       refine tx (i:=1) rfl (by assumption) ?_
       refine tx (i:=2) rfl (by assumption) ?_
       refine tx (i:=3) rfl (by assumption) ?_
       refine tx (i:=4) rfl (by assumption) ?_
       refine tx (i:=5) rfl (by assumption) ?_
       refine tx (i:=6) rfl (by assumption) ?_
       refine tx (i:=7) rfl (by assumption) ?_
       refine tx (i:=8) rfl (by assumption) ?_
       refine tx (i:=9) rfl (by assumption) ?_
       refine tx (i:=10) rfl (by assumption) ?_
       refine tx (i:=11) rfl (by assumption) ?_
       refine wpAnyH_ready (rs:=[12]) (by kernel_rfl) (by simp) ?_
       refine AllReadyH.cons rfl (fun K hK => ?_) AllReadyH.nil
       go_simp
       refine (law_ParseFormulas _ _ (HE.out.below hHeld.bel)).mono ?_
       rintro e w2 ⟨rfl,hb3⟩
       go_wp2_with fail
       refine hK.out _ _ (hHeld.below hb3) (fun hHeld => ?_)
       clear hK K
       try simp only [Act.put,p1,p2,p3,p4,p5,p6]
       refine tx (i:=13) rfl (by assumption) ?_
       refine tx (i:=14) rfl (by assumption) ?_
       refine tx (i:=15) rfl (by assumption) ?_
       refine tx (i:=16) rfl (by assumption) ?_
       refine tx (i:=17) rfl (by assumption) ?_
       refine tx (i:=18) rfl (by assumption) ?_
       refine tx (i:=19) rfl (by assumption) ?_
       refine tx (i:=20) rfl (by assumption) ?_
       refine tx (i:=21) rfl (by assumption) ?_
       refine tx (i:=22) rfl (by assumption) ?_
       refine tx (i:=23) rfl (by assumption) ?_
       refine tx (i:=24) rfl (by assumption) ?_
       refine tx (i:=25) rfl (by assumption) ?_
       refine tx (i:=26) rfl (by assumption) ?_
       refine wpAnyH_ready (rs:=[27]) (by kernel_rfl) (by simp) ?_
       refine AllReadyH.cons rfl (fun K hK => ?_) AllReadyH.nil
       go_simp
       refine (law_ParseFormulas _ _ (HE.out.below hHeld.bel)).mono ?_
       rintro e w4 ⟨rfl,hb5⟩
       go_wp2_with fail
       refine hK.out _ _ (hHeld.below hb5) (fun hHeld => ?_)
       clear hK K
       try simp only [Act.put,p1,p2,p3,p4,p5,p6]
       refine tx (i:=28) rfl (by assumption) ?_
       refine tx (i:=29) rfl (by assumption) ?_
       refine wpAnyH_done (by kernel_rfl) ?_ _
       clear H2
       have H6:=Lib.hid hHeld
       clear hHeld
       go_wp2_with fail
       go_roundw
       case rel => exact ⟨j + 1,by omega,by go_num,Lib.hid (H6.out.drop _ (by simp))⟩
       case measure => simp [intOf]; omega
      ·go_wp2_with fail
       go_roundw
       case rel => exact ⟨i + 1,by omega,by go_num,HR⟩
       case measure => simp [intOf]; omega
    ·have HB:=Lib.hid HR.out.bel
     clear HR HS HAL
     go_wp2_with fail
     go_loopw [6] (fun nv wr => ∃ n : Int,28 ≤ n ∧ n ≤ 36 ∧ nv = .int .i64 n ∧ Hid (Below w.heap.size w wr)) (fun nv _ => (36 - intOf nv).toNat)
     case atStart => exact ⟨28,by omega,by omega,rfl,HB⟩
     case round =>
      clear HB
      obtain ⟨n,hn1,hn2,rfl,HB⟩:=hrel
      obtain ⟨wv,rfl⟩ : ∃ wv : World,wv = wr:=⟨_,rfl⟩
      by_cases hnl : n < 36
      ·go_wp2_with fail
       refine (law9_repeat _ n _ (by first | decide | simp) (by omega) (by omega)).mono ?_
       rintro e w41 ⟨t1,rfl,ht1,hw⟩
       obtain rfl : wv = w41:=hw.symm
       go_wp2_with fail
       refine (law_ParseFormulas _ _ (HE.out.below HB.out)).mono ?_
       rintro e w42 ⟨rfl,hb⟩
       have HB:=Lib.hid (HB.out.trans (hb.mono HB.out.size))
       clear hb
       go_wp2_with fail
       refine (law9_repeat _ n _ (by first | decide | simp) (by omega) (by omega)).mono ?_
       rintro e w43 ⟨t3,rfl,ht3,hw⟩
       obtain rfl : w42 = w43:=hw.symm
       go_wp2_with fail
       refine (law9_repeat _ n _ (by first | decide | simp) (by omega) (by omega)).mono ?_
       rintro e w44 ⟨t4,rfl,ht4,hw⟩
       obtain rfl : w42 = w44:=hw.symm
       go_wp2_with fail
       refine (law_ParseFormulas _ _ (HE.out.below HB.out)).mono ?_
       rintro e w45 ⟨rfl,hb⟩
       have HB:=Lib.hid (HB.out.trans (hb.mono HB.out.size))
       clear hb
       go_wp2_with fail
       refine (law9_repeat _ n _ (by first | decide | simp) (by omega) (by omega)).mono ?_
       rintro e w46 ⟨t6,rfl,ht6,hw⟩
       obtain rfl : w45 = w46:=hw.symm
       go_wp2_with fail
       refine (law9_repeat _ n _ (by first | decide | simp) (by omega) (by omega)).mono ?_
       rintro e w47 ⟨t7,rfl,ht7,hw⟩
       obtain rfl : w45 = w47:=hw.symm
       go_wp2_with fail
       refine (law_ParseFormulas _ _ (HE.out.below HB.out)).mono ?_
       rintro e w48 ⟨rfl,hb⟩
       have HB:=Lib.hid (HB.out.trans (hb.mono HB.out.size))
       clear hb
       go_wp2_with fail
       refine (law9_repeat _ n _ (by first | decide | simp) (by omega) (by omega)).mono ?_
       rintro e w49 ⟨t9,rfl,ht9,hw⟩
       obtain rfl : w48 = w49:=hw.symm
       go_wp2_with fail
       refine (law_ParseFormulas _ _ (HE.out.below HB.out)).mono ?_
       rintro e w50 ⟨rfl,hb⟩
       have HB:=Lib.hid (HB.out.trans (hb.mono HB.out.size))
       clear hb
       go_wp2_with fail
       refine (law9_repeat _ n _ (by first | decide | simp) (by omega) (by omega)).mono ?_
       rintro e w51 ⟨t11,rfl,ht11,hw⟩
       obtain rfl : w50 = w51:=hw.symm
       go_wp2_with fail
       refine (law_ParseFormulas _ _ (HE.out.below HB.out)).mono ?_
       rintro e w52 ⟨rfl,hb⟩
       have HB:=Lib.hid (HB.out.trans (hb.mono HB.out.size))
       clear hb
       go_wp2_with fail
       refine (law9_repeat _ n _ (by first | decide | simp) (by omega) (by omega)).mono ?_
       rintro e w53 ⟨t13,rfl,ht13,hw⟩
       obtain rfl : w52 = w53:=hw.symm
       go_wp2_with fail
       refine (law9_repeat _ n _ (by first | decide | simp) (by omega) (by omega)).mono ?_
       rintro e w54 ⟨t14,rfl,ht14,hw⟩
       obtain rfl : w52 = w54:=hw.symm
       go_wp2_with fail
       refine (law_ParseFormulas _ _ (HE.out.below HB.out)).mono ?_
       rintro e w55 ⟨rfl,hb⟩
       have HB:=Lib.hid (HB.out.trans (hb.mono HB.out.size))
       clear hb
       go_wp2_with fail
       go_roundw
       case rel => exact ⟨n + 1,by omega,by omega,by go_num,HB⟩
       case measure => simp [intOf]; omega
      ·go_wp2_with fail
       go_loopw [7] (fun nv wr => ∃ n : Int,-1 ≤ n ∧ n ≤ 16 ∧ nv = .int .i64 n ∧ Hid (Below w.heap.size w wr)) (fun nv _ => (16 - intOf nv).toNat)
       case atStart => exact ⟨-1,by omega,by omega,rfl,HB⟩
       case round =>
        clear HB
        obtain ⟨m,hm1,hm2,rfl,HB⟩:=hrel
        obtain ⟨wu,rfl⟩ : ∃ wu : World,wu = wr:=⟨_,rfl⟩
        by_cases hml : m < 16
        ·go_wp2_with fail
         refine (law_ParseBinds m _ (HE.out.below HB.out)).mono ?_
         rintro e w90 ⟨rfl,hb⟩
         have HB:=Lib.hid (HB.out.trans (hb.mono HB.out.size))
         clear hb
         go_wp2_with fail
         refine (law9_repeat _ (m + 1) _ (by first | decide | simp) (by omega) (by omega)).mono ?_
         rintro e w56 ⟨t16,rfl,ht16,hw⟩
         obtain rfl : w90 = w56:=hw.symm
         go_wp2_with fail
         refine (law_ParseFormulas _ _ (HE.out.below HB.out)).mono ?_
         rintro e w57 ⟨rfl,hb⟩
         have HB:=Lib.hid (HB.out.trans (hb.mono HB.out.size))
         clear hb
         go_wp2_with fail
         refine (law9_repeat _ (m + 1) _ (by first | decide | simp) (by omega) (by omega)).mono ?_
         rintro e w58 ⟨t18,rfl,ht18,hw⟩
         obtain rfl : w57 = w58:=hw.symm
         go_wp2_with fail
         refine (law_ParseFormulas _ _ (HE.out.below HB.out)).mono ?_
         rintro e w59 ⟨rfl,hb⟩
         have HB:=Lib.hid (HB.out.trans (hb.mono HB.out.size))
         clear hb
         go_wp2_with fail
         go_roundw
         case rel => exact ⟨m + 1,by omega,by omega,by go_num,HB⟩
         case measure => simp [intOf]; omega
        ·go_wp2_with fail
         refine (law9_repeat _ 256 _ (by first | decide | simp) (by omega) (by omega)).mono ?_
         rintro e w60 ⟨t20,rfl,ht20,hw⟩
         obtain rfl : wu = w60:=hw.symm
         go_wp2_with fail
         refine (law_ParseFormulas _ _ (HE.out.below HB.out)).mono ?_
         rintro e w61 ⟨rfl,hb⟩
         have HB:=Lib.hid (HB.out.trans (hb.mono HB.out.size))
         clear hb
         go_wp2_with fail
         refine (law9_repeat _ 255 _ (by first | decide | simp) (by omega) (by omega)).mono ?_
         rintro e w62 ⟨t22,rfl,ht22,hw⟩
         obtain rfl : w61 = w62:=hw.symm
         go_wp2_with fail
         refine (law_ParseFormulas _ _ (HE.out.below HB.out)).mono ?_
         rintro e w63 ⟨rfl,hb⟩
         have HB:=Lib.hid (HB.out.trans (hb.mono HB.out.size))
         clear hb
         go_wp2_with fail
         refine (law9_repeat _ 256 _ (by first | decide | simp) (by omega) (by omega)).mono ?_
         rintro e w64 ⟨t24,rfl,ht24,hw⟩
         obtain rfl : w63 = w64:=hw.symm
         go_wp2_with fail
         refine (law_ParseFormulas _ _ (HE.out.below HB.out)).mono ?_
         rintro e w65 ⟨rfl,hb⟩
         have HB:=Lib.hid (HB.out.trans (hb.mono HB.out.size))
         clear hb
         go_wp2_with fail
         refine (law9_repeat _ 256 _ (by first | decide | simp) (by omega) (by omega)).mono ?_
         rintro e w66 ⟨t26,rfl,ht26,hw⟩
         obtain rfl : w65 = w66:=hw.symm
         go_wp2_with fail
         refine (law_ParseFormulas _ _ (HE.out.below HB.out)).mono ?_
         rintro e w67 ⟨rfl,hb⟩
         have HB:=Lib.hid (HB.out.trans (hb.mono HB.out.size))
         clear hb
         go_wp2_with fail
         refine (law_awake9 _ (HE.out.below HB.out)).mono ?_
         rintro e w99 ⟨rfl,hb⟩
         have HB:=Lib.hid (HB.out.trans (hb.mono HB.out.size))
         clear hb
         go_wp2_with fail
         go_ret
         exact ⟨rfl,HB.out⟩
theorem ParseExamples_walk (w : World) (hL : laidMetH Tryz.prog Rows.parseExamplesRow.laid w) (hS : w.ShapedOpen Tryz.prog) :
  Calls Tryz.prog 4 #[] w fun e w' => e = .returned (.bool true) ∧ Below w.heap.size w w' :=
 law_ParseExamples w (words_of hL (by kernel_rfl) hS)
end Go.Proofs.YtlngjiibbcgkmaaGreatDoor
namespace Go.Proofs.YtlngjiibbcgkmaaGreatDoor.parseExamplesEnd
open Go.ChangeShapes Go.WideShapes Go.ChangeAt Go.RowKit Go.Joins
open Go.ChangeMaps (open_string shut_string)
theorem own : ownKnob Tryz.prog.godebug = none:=by kernel_rfl
theorem laidOut : laidOutB Tryz.prog = true:=by kernel_rfl
/- A world for the witness: the settled one, each listed variable holding what its initialiser lays. -/
noncomputable def laidWorld (os : Os) : World :=
  { World.holding Tryz.prog os ⟨#[],#[],[]⟩ with heap:=((World.holding Tryz.prog os ⟨#[],#[],[]⟩).heap).modify 0 (fun o => match o with | .cells _ t frozen => .cells #[.string ⟨#[]⟩,.string ⟨#[35,68,73,86,47,48,33]⟩,.string ⟨#[35,86,65,76,85,69,33]⟩,.string ⟨#[35,78,85,77,33]⟩,.string ⟨#[35,78,47,65]⟩,.string ⟨#[35,82,69,70,33]⟩,.string ⟨#[35,67,89,67,76,69,33]⟩,.string ⟨#[35,68,69,78,73,69,68]⟩] t frozen | o => o) }
theorem laid_met (os : Os) : laidMet Tryz.prog Rows.parseExamplesRow.laid ((laidWorld os).forCall (fun _ _ => 0) ⟨#[],#[],[]⟩).memory :=
  laidMet_of_run' 8 (by kernel_rfl) (by kernel_rfl)
theorem reads (os : Os) {H : Type} (enc : TypeId × Value → H) : ∃ places,DataW.whole enc Tryz.prog ((laidWorld os).forCall (fun _ _ => 0) ⟨#[],#[],[]⟩).memory Tryz.f4.params.toList Rows.parseExamplesSpec.vars false (#[] : Array Value).toList 8 = some ([],[],places) :=
  ⟨[],by kernel_rfl⟩
set_option maxRecDepth 100000 in
theorem lifted (os : Os) (started : os.Started) (H : Type) (enc : TypeId × Value → H) (F : Stop.Interp) :
    ReturnsInHanded {} Tryz.checked os 4 .any ((OpenSpec.ofChange Rows.parseExamplesSpec).preRow enc Tryz.prog Tryz.f4 Rows.parseExamplesRow.domain false Rows.parseExamplesRow.laid) (((OpenSpec.ofChange Rows.parseExamplesSpec).at F).post enc Tryz.prog Tryz.f4 false true false false):=by
  obtain ⟨places,hx⟩:=reads os enc
  refine returnsInHanded_of_row (C:=Tryz.checked) (s:=OpenSpec.ofChange Rows.parseExamplesSpec) own started (by kernel_rfl) Tryz.func4
    (witness_row_at (enc:=enc) (C:=Tryz.checked) false (laidWorld os) #[] rfl (by kernel_rfl) (by kernel_rfl) (by kernel_rfl)
      (OpenSpec.preRow_of_cond 8 hx (by kernel_rfl) (fun k hk => by cases hk) (by kernel_rfl) (laid_met os))) ?_
  intro W base args ds gs before hval0 hW _ _ hsz0 hL hS _
  have hval : ∀ (j : Nat) t v,Tryz.f4.params[j]? = some t → args[j]? = some v → Value.okWide Tryz.prog W .any base t v:=hval0
  have hW':=hW
  obtain ⟨p,q,hA0,hV,rfl,hfz,hnd⟩:=hW
  have hA : DataW.TrodAll enc Tryz.prog W 0 (fun _ => true) true Tryz.f4.params.toList args.toList ds p:=hA0
  rw [Tryz.params4] at hA hval
  obtain ⟨hargs,rfl,rfl⟩:=trodAll_none hA
  obtain rfl : args = #[]:=by cases args; simp_all
  obtain ⟨rfl,rfl⟩:=trodVars_none hV
  clear hA0 hval0
  refine (ParseExamples_walk  W  hL hS).mono fun e W' ⟨he,bel⟩ => ?_
  subst he
  exact ⟨_,rfl,_,_,_,[],_,[],hW',trodAll_mk1 (shut_bool Tryz.underlying4 _),trodAll_mk0,rfl,bel.frame _,fun h => by cases h⟩
theorem said : Rows.ParseExamplesSaid :=
  OpenClaim.holds_of_cond 4 Tryz.f4 rfl rfl rfl rfl rfl rfl rfl ⟨rfl,rfl,rfl,rfl,rfl⟩ rfl rfl rfl rfl rfl (by kernel_rfl) Tryz.func4 (by kernel_rfl)
    (of_decide_eq_true (by kernel_rfl)) (by unfold Func.isWrapper; first | (rw [if_pos (by decide +kernel)]; kernel_rfl) | (rw [if_neg (by decide +kernel)]; exact ⟨rfl,rfl⟩))
    (fun os started H enc _ F => by rw [OpenClaim.pre_eq_preRow]; exact lifted os started H enc F)
theorem plain (f : FuncId) (fn : Func) (hf : Tryz.pinned.checked.prog.funcNamed "louvre/louvrelaw09.ParseExamples" = some f) (hfn : Tryz.pinned.checked.prog.funcs[f]? = some fn) :
    true = Tryz.pinned.checked.prog.looks [] ∧ ∀ (j : Nat) t,fn.params[j]? = some t → Tryz.pinned.checked.prog.wantsStandIn t = false:=by
  obtain rfl : f = 4 := Option.some.inj ((show Tryz.prog.funcNamed "louvre/louvrelaw09.ParseExamples" = some 4 by kernel_rfl).symm.trans hf) |>.symm
  obtain rfl : fn = Tryz.f4:=(Option.some.inj (Tryz.func4.symm.trans hfn)).symm
  refine ⟨by kernel_rfl,fun j t ht => ?_⟩
  rw [Tryz.params4] at ht
  simp at ht
theorem card : Rows.ParseExamplesCardSaid :=
  Claim7.holds_tied_plain_at .later [] _ _ _ _ said (fun _ h => by cases h) (by kernel_rfl) (fun _ h => by cases h) parseExamples_row_tie rfl ⟨rfl,rfl⟩ (by kernel_rfl) rfl plain (by kernel_rfl)
#print axioms card
end Go.Proofs.YtlngjiibbcgkmaaGreatDoor.parseExamplesEnd
