/- The contract of the kit's EqualTree: two slices that read as the same list are equal. Plain: the chapter's first formulas, parsed. Contracts of what the statements of chapter 09 call besides. -/
import Derived.Test.YtlngjiibbcgkmaaGreatDoorTreB
import Derived.Test.YtlngjiibbcgkmaaGreatDoorParM
import Derived.Test.YtlngjiibbcgkmaaGreatDoorForB
namespace Go.Proofs.YtlngjiibbcgkmaaGreatDoor
section
open Go.RowKit
set_option maxRecDepth 100000 in
set_option maxHeartbeats 4000000 in
theorem equal_tree (ns : List Nd) (a b : Option Addr) (c d : Nat) (w : World) (hn : ns.length ≤ 1000) (ha : RowsAt w a 11 (ns.map ndRow)) (hb : RowsAt w b 11 (ns.map ndRow)) :
  Calls Tryz.prog 13 #[.slice a ns.length c,.slice b ns.length d] w fun e w' => e = .returned (.bool true) ∧ Below w.heap.size w w':=by
 have HA:=keep ha
 have HB:=keep hb
 clear ha hb
 obtain ⟨n,hl⟩ : ∃ n,ns.length = n:=⟨_,rfl⟩
 rw [hl] at hn ⊢
 have HL:=keep hl
 clear hl
 go_enter Tryz.func13,Tryz.ntmps13
 go_wp2_with fail
 go_loopw [5] (fun i wr => ∃ k : Nat,k ≤ n ∧ i = .int .i64 (k : Int) ∧ Hid (Below w.heap.size w wr)) (fun i _ => n - (intOf i).toNat)
 case atStart => exact ⟨0,Nat.zero_le _,rfl,Below.refl _ _⟩
 case round =>
  obtain ⟨k,hk,rfl,H2⟩:=hrel
  obtain ⟨wp,rfl⟩ : ∃ wp : World,wp = wr:=⟨_,rfl⟩
  by_cases hlt : (k : Int) < n
  ·have hil : k < ns.length:=by rw [HL.out]; omega
   obtain ⟨x,hx⟩ : ∃ x,ns[k] = x:=⟨_,rfl⟩
   obtain ⟨b1,o1,ha1,hB1,hc1⟩:=HA.out (by intro e; have h9:=congrArg List.length e; rw [List.length_map] at h9; simp only [List.length_nil] at h9; omega)
   obtain ⟨b2,o2,hb2,hB2,hc2⟩:=HB.out (by intro e; have h9:=congrArg List.length e; rw [List.length_map] at h9; simp only [List.length_nil] at h9; omega)
   subst ha1 hb2
   have g1:=hc1 k (ndRow x) (by rw [List.getElem?_map,List.getElem?_eq_getElem hil,hx]; rfl)
   have g2:=hc2 k (ndRow x) (by rw [List.getElem?_map,List.getElem?_eq_getElem hil,hx]; rfl)
   obtain ⟨nk,vk,vn,vt,⟨r1,r2,r3,r4⟩,op,fn,nn⟩:=x
   have c0:=(H2.out.cell hB1).trans (g1 0 _ rfl)
   have d0:=(H2.out.cell hB2).trans (g2 0 _ rfl)
   have c1:=(H2.out.cell hB1).trans (g1 1 _ rfl)
   have d1:=(H2.out.cell hB2).trans (g2 1 _ rfl)
   have c2:=(H2.out.cell hB1).trans (g1 2 _ rfl)
   have d2:=(H2.out.cell hB2).trans (g2 2 _ rfl)
   have c3:=(H2.out.cell hB1).trans (g1 3 _ rfl)
   have d3:=(H2.out.cell hB2).trans (g2 3 _ rfl)
   have c4:=(H2.out.cell hB1).trans (g1 4 _ rfl)
   have d4:=(H2.out.cell hB2).trans (g2 4 _ rfl)
   have c5:=(H2.out.cell hB1).trans (g1 5 _ rfl)
   have d5:=(H2.out.cell hB2).trans (g2 5 _ rfl)
   have c6:=(H2.out.cell hB1).trans (g1 6 _ rfl)
   have d6:=(H2.out.cell hB2).trans (g2 6 _ rfl)
   have c7:=(H2.out.cell hB1).trans (g1 7 _ rfl)
   have d7:=(H2.out.cell hB2).trans (g2 7 _ rfl)
   have c8:=(H2.out.cell hB1).trans (g1 8 _ rfl)
   have d8:=(H2.out.cell hB2).trans (g2 8 _ rfl)
   have c9:=(H2.out.cell hB1).trans (g1 9 _ rfl)
   have d9:=(H2.out.cell hB2).trans (g2 9 _ rfl)
   have c10:=(H2.out.cell hB1).trans (g1 10 _ rfl)
   have d10:=(H2.out.cell hB2).trans (g2 10 _ rfl)
   simp only [Nat.add_zero,← Nat.add_assoc] at c0 d0 c1 d1 c2 d2 c3 d3 c4 d4 c5 d5 c6 d6 c7 d7 c8 d8 c9 d9 c10 d10
   have hb1 : b1 < wp.heap.size:=Nat.lt_of_lt_of_le hB1 H2.out.size
   have hb2 : b2 < wp.heap.size:=Nat.lt_of_lt_of_le hB2 H2.out.size
   clear hil hx hc1 hc2 g1 g2
   go_wp2_with fail
   go_region_held3 (fun w' => w'.cell? ⟨b1,o1 + k * 11,none⟩ = some (.int .u8 nk) ∧ w'.cell? ⟨b1,o1 + k * 11 + 1,none⟩ = some (.int .u8 vk) ∧ w'.cell? ⟨b1,o1 + k * 11 + 2,none⟩ = some (.int .i64 vn) ∧ w'.cell? ⟨b1,o1 + k * 11 + 3,none⟩ = some (.string ⟨vt.toArray⟩) ∧ w'.cell? ⟨b1,o1 + k * 11 + 4,none⟩ = some (.int .i64 r1) ∧ w'.cell? ⟨b1,o1 + k * 11 + 5,none⟩ = some (.int .i64 r2) ∧ w'.cell? ⟨b1,o1 + k * 11 + 6,none⟩ = some (.int .i64 r3) ∧ w'.cell? ⟨b1,o1 + k * 11 + 7,none⟩ = some (.int .i64 r4) ∧ w'.cell? ⟨b1,o1 + k * 11 + 8,none⟩ = some (.int .i64 op) ∧ w'.cell? ⟨b1,o1 + k * 11 + 9,none⟩ = some (.int .u8 fn) ∧ w'.cell? ⟨b1,o1 + k * 11 + 10,none⟩ = some (.int .i64 nn) ∧ w'.cell? ⟨b2,o2 + k * 11,none⟩ = some (.int .u8 nk) ∧ w'.cell? ⟨b2,o2 + k * 11 + 1,none⟩ = some (.int .u8 vk) ∧ w'.cell? ⟨b2,o2 + k * 11 + 2,none⟩ = some (.int .i64 vn) ∧ w'.cell? ⟨b2,o2 + k * 11 + 3,none⟩ = some (.string ⟨vt.toArray⟩) ∧ w'.cell? ⟨b2,o2 + k * 11 + 4,none⟩ = some (.int .i64 r1) ∧ w'.cell? ⟨b2,o2 + k * 11 + 5,none⟩ = some (.int .i64 r2) ∧ w'.cell? ⟨b2,o2 + k * 11 + 6,none⟩ = some (.int .i64 r3) ∧ w'.cell? ⟨b2,o2 + k * 11 + 7,none⟩ = some (.int .i64 r4) ∧ w'.cell? ⟨b2,o2 + k * 11 + 8,none⟩ = some (.int .i64 op) ∧ w'.cell? ⟨b2,o2 + k * 11 + 9,none⟩ = some (.int .u8 fn) ∧ w'.cell? ⟨b2,o2 + k * 11 + 10,none⟩ = some (.int .i64 nn)) (go_keep) (fail)
   go_wp2_with fail
   go_roundw
   case rel => exact ⟨k + 1,by omega,by go_num,H2.out.drew⟩
   case measure => simp [intOf]; omega
  ·obtain rfl : k = n:=by omega
   go_wp2_with fail
   go_ret
   exact ⟨rfl,H2.out⟩
end
section
open Go.RowKit
def ndNum (n : Int) : Nd:=⟨1,1,n,[],R4.zero,0,0,0⟩
theorem form_a : formS [49,43,50,42,51] = ([ndNum 10000,ndNum 20000,ndNum 30000,ndBin 3,ndBin 1],0,0):=by kernel_rfl
theorem form_b : formS [45,50,94,50] = ([ndNum 20000,ndNum 20000,ndBin 5,ndNeg],0,0):=by kernel_rfl
theorem form_c : formS [50,94,51,94,50] = ([ndNum 20000,ndNum 30000,ndNum 20000,ndBin 5,ndBin 5],0,0):=by kernel_rfl
theorem form_d : formS [83,85,77,40,65,49,58,66,50,43,49,41] = ([],9,4):=by kernel_rfl
theorem form_e : formS [49,43,65,66,83,40,49,44,50,41] = ([],2,11):=by kernel_rfl
end
section
open Go.RowKit
theorem rows_get {w : World} {base n c : Nat} {a : Option Addr} {l : List Nd} (h : w.ownsRow base 32 11 (.slice a n c) l.length (ndCells l)) : n = l.length ∧ RowsAt w a 11 (l.map ndRow):=by
 obtain ⟨a',c',h1,_,_,h2⟩:=rows_own ndRow (fun _ => rfl) h rfl
 simp only [Value.slice.injEq] at h1
 obtain ⟨rfl,rfl,rfl⟩:=h1
 exact ⟨rfl,h2⟩
theorem rows_blk {w : World} {b : Nat} {t : TypeId} {l : List Nd} (h : Blk w b t (ndCells l).toArray) : RowsAt w (some ⟨b,0,none⟩) 11 (l.map ndRow):=by
 intro _
 refine ⟨b,0,rfl,h.lt,fun i r hi j v hj => ?_⟩
 rw [List.getElem?_map] at hi
 obtain ⟨x,hx,rfl⟩:=Option.map_eq_some_iff.1 hi
 rw [h.cell,Nat.zero_add]
 have:=flat_at ndRow 11 (fun _ => rfl) l i x hx j v hj
 simpa [ndCells] using this
theorem law_number (n : Int) (w : World) (h1 : 0 ≤ n) (h2 : n ≤ 1000) :
  Calls Tryz.prog 34 #[.int .i64 n] w fun e w' => e = .returned (.agg #[.int .u8 1,.int .u8 1,.int .i64 (n * 10000),.string ⟨#[]⟩,.int .i64 0,.int .i64 0,.int .i64 0,.int .i64 0,.int .i64 0,.int .u8 0,.int .i64 0]) ∧ Below w.heap.size w w':=by
 have hw0 : IntKind.i64.wrap (n * 10000) = n * 10000:=Go.IntWalk.i64_in _ (by omega)
 have H:=Lib.hid ((Ok.start w).var w.heap.size 32 [.int .u8 1,.int .u8 1,.int .i64 (n * 10000),.string ⟨#[]⟩,.int .i64 0,.int .i64 0,.int .i64 0,.int .i64 0,.int .i64 0,.int .u8 0,.int .i64 0] rfl)
 have F:=H.out.sees
 simp only [sees,kVar,cellsAt,Nat.reduceAdd] at F
 obtain ⟨⟨⟨-,-⟩,r0,r1,r2,r3,r4,r5,r6,r7,r8,r9,r10,-⟩,-⟩:=F
 go_enter Tryz.func34,Tryz.ntmps34
 go_wp2_with fail
 generalize (w.alloc (.cells #[.int .u8 1,.int .u8 1,.int .i64 (n * 10000),.string ⟨#[]⟩,.int .i64 0,.int .i64 0,.int .i64 0,.int .i64 0,.int .i64 0,.int .u8 0,.int .i64 0] 32)) = w1 at H r0 r1 r2 r3 r4 r5 r6 r7 r8 r9 r10 ⊢
 refine bodyPost_ret (v:=.agg #[.int .u8 1,.int .u8 1,.int .i64 (n * 10000),.string ⟨#[]⟩,.int .i64 0,.int .i64 0,.int .i64 0,.int .i64 0,.int .i64 0,.int .u8 0,.int .i64 0]) ?_ rfl ⟨rfl,H.out.bel⟩
 simp [results,Tryz.results34,go_sem,r0,r1,r2,r3,r4,r5,r6,r7,r8,r9,r10]
end
end Go.Proofs.YtlngjiibbcgkmaaGreatDoor
