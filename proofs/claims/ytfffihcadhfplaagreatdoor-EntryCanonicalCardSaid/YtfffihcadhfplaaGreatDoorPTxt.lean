/- show.text and its closure. -/
import Derived.Test.YtfffihcadhfplaaGreatDoorPLit
import Derived.Test.YtfffihcadhfplaaGreatDoorPIterV
import Derived.Test.YtfffihcadhfplaaGreatDoorPForB
import Derived.Test.YtfffihcadhfplaaGreatDoorPDpV
namespace Go.Proofs.YtfffihcadhfplaaGreatDoor
set_option maxRecDepth 100000
set_option maxHeartbeats 4000000
open Go.RowKit
theorem cells_of {w:World} {b o:Nat} (l:List Value) (h:∀ j v,l[j]?=some v→w.cell? ⟨b,o+j,none⟩=some v):cellsFrom w b o 0 l:=by
 have key:∀ (m:List Value) (k:Nat),(∀ j v,m[j]?=some v→w.cell? ⟨b,o+(k+j),none⟩=some v)→cellsFrom w b o k m:=by
  intro m
  induction m with
  | nil=>intro _ _; exact trivial
  | cons x m ih =>
   intro k hk
   refine ⟨by have:=hk 0 x rfl; rwa [Nat.add_zero] at this,ih (k+1) fun j v hj => ?_⟩
   have:=hk (j+1) v hj
   rwa [show k+(j+1)=k+1+j by omega] at this
 exact key l 0 fun j v hj=>by rw [Nat.zero_add]; exact h j v hj
theorem tclo_lt (p q tb tz tl tc kb kn kc k j nk vk:Nat) (vn:Int) (vt:List UInt8) (r1 r2 r3 r4 op:Int) (fn nn:Nat) (least S:Int) (X R:ByteArray) (w:World) (ps:List Pers)
  (hok:Ok w (kCells p 0 [.slice (some ⟨tb,tz,none⟩) tl tc]::kCells q 0 [.slice (some ⟨kb,0,none⟩) kn kc]::kCells kb k [.int .i64 (j:Nat)]::kCells tb (tz+j * 11) [.int .u8 nk,.int .u8 vk,.int .i64 vn,.string ⟨vt.toArray⟩,.int .i64 r1,.int .i64 r2,.int .i64 r3,.int .i64 r4,.int .i64 op,.int .u8 fn,.int .i64 nn]::ps) w)
  (hk:k<kn) (hj:j<tl) (hX:X.size≤1000000000) (hR:R=⟨#[40]⟩++X++⟨#[41]⟩)
  (HIH:Keep (∀ w2,Below w.heap.size w w2→Calls Tryz.prog 58 #[.slice (some ⟨tb,tz,none⟩) tl tc,.int .i64 (j:Nat)] w2 fun e w'=>e=.returned (.string X)∧Below w2.heap.size w2 w'))
  (HST:Keep (∀ w2,Calls Tryz.prog 92 #[.agg #[.int .u8 nk,.int .u8 vk,.int .i64 vn,.string ⟨vt.toArray⟩,.int .i64 r1,.int .i64 r2,.int .i64 r3,.int .i64 r4,.int .i64 op,.int .u8 fn,.int .i64 nn]] w2 fun e w'=>e=.returned (.int .i64 S)∧Below w2.heap.size w2 w')) (hlt:S<least) :
  Calls Tryz.prog 91 #[.int .i64 (k:Nat),.int .i64 least,.pointer (some ⟨p,0,none⟩),.pointer (some ⟨q,0,none⟩)] w fun e w'=>e=.returned (.string R)∧Below w.heap.size w w':=by
 have H1:Hid (Ok w [kCells p 0 [.slice (some ⟨tb,tz,none⟩) tl tc],kCells q 0 [.slice (some ⟨kb,0,none⟩) kn kc],kCells kb k [.int .i64 (j:Nat)],kCells tb (tz+j * 11) [.int .u8 nk,.int .u8 vk,.int .i64 vn,.string ⟨vt.toArray⟩,.int .i64 r1,.int .i64 r2,.int .i64 r3,.int .i64 r4,.int .i64 op,.int .u8 fn,.int .i64 nn]] w):=Lib.hid (hok.drop _ (by
  intro x hx
  simp only [List.mem_cons,List.not_mem_nil,or_false] at hx ⊢
  rcases hx with h | h | h | h <;> simp [h]))
 clear hok
 have HR:=keep hR
 clear hR
 have hki:(k:Int)<(kn:Int):=by omega
 have hji:(j:Int)<(tl:Int):=by omega
 go_enter Tryz.func91,Tryz.ntmps91
 go_upto_region 1 with fail
 refine wp_region_held_drew (S:=fun W=>Ok w [kCells p 0 [.slice (some ⟨tb,tz,none⟩) tl tc],kCells q 0 [.slice (some ⟨kb,0,none⟩) kn kc],kCells kb k [.int .i64 (j:Nat)],kCells tb (tz+j * 11) [.int .u8 nk,.int .u8 vk,.int .i64 vn,.string ⟨vt.toArray⟩,.int .i64 r1,.int .i64 r2,.int .i64 r3,.int .i64 r4,.int .i64 op,.int .u8 fn,.int .i64 nn]] W) (by kernel_rfl) H1.out.drew (fun hHeld => ?_)
 refine wt3 (i:=0) rfl (by assumption) ?_
 refine wt3 (i:=1) rfl (by assumption) ?_
 refine wt3 (i:=2) rfl (by assumption) ?_
 refine wt3 (i:=3) rfl (by assumption) ?_
 refine wt3 (i:=4) rfl (by assumption) ?_
 refine wal (i:=5) rfl (fun K hK => ?_)
 go_simp
 refine (HIH.out _ hHeld.bel).mono ?_
 rintro e w2 ⟨rfl,hb3⟩
 go_wp2_with fail
 refine hK.out _ _ (hHeld.below hb3) (fun hHeld => ?_)
 clear hK K
 try simp only [Act.put,wp1,wp2,wp3,wp4,wp5,wp6]
 refine wt3 (i:=6) rfl (by assumption) ?_
 refine wpAnyH_done (by kernel_rfl) ?_ _
 clear H1
 have H4:=Lib.hid hHeld
 clear hHeld
 have F5:=H4.out.sees
 simp only [sees,kCells,cellsFrom,Nat.add_zero,Nat.reduceAdd] at F5
 obtain ⟨⟨z0,c00,-⟩,⟨z1,c10,-⟩,⟨z2,c20,-⟩,⟨z3,c30,c31,c32,c33,c34,c35,c36,c37,c38,c39,c3a,-⟩,-⟩:=F5
 go_upto_region 2 with fail
 refine wp_region_held_drew (S:=fun W=>Ok w [kCells p 0 [.slice (some ⟨tb,tz,none⟩) tl tc],kCells q 0 [.slice (some ⟨kb,0,none⟩) kn kc],kCells kb k [.int .i64 (j:Nat)],kCells tb (tz+j * 11) [.int .u8 nk,.int .u8 vk,.int .i64 vn,.string ⟨vt.toArray⟩,.int .i64 r1,.int .i64 r2,.int .i64 r3,.int .i64 r4,.int .i64 op,.int .u8 fn,.int .i64 nn]] W) (by kernel_rfl) H4.out.drew (fun hHeld => ?_)
 refine wt3 (i:=0) rfl (by assumption) ?_
 refine wt3 (i:=1) rfl (by assumption) ?_
 refine wt3 (i:=2) rfl (by assumption) ?_
 refine wt3 (i:=3) rfl (by assumption) ?_
 refine wt3 (i:=4) rfl (by assumption) ?_
 refine wt3 (i:=5) rfl (by assumption) ?_
 refine wt3 (i:=6) rfl (by assumption) ?_
 refine wt3 (i:=8) rfl (by assumption) ?_
 refine wal (i:=7) rfl (fun K hK => ?_)
 go_simp
 refine (HST.out _).mono ?_
 rintro e w7 ⟨rfl,hb8⟩
 go_wp2_with fail
 refine hK.out _ _ (hHeld.below hb8) (fun hHeld => ?_)
 clear hK K
 try simp only [Act.put,wp1,wp2,wp3,wp4,wp5,wp6]
 refine wt3 (i:=9) rfl (by assumption) ?_
 refine wpAnyH_done (by kernel_rfl) ?_ _
 clear z0 c00 z1 c10 z2 c20 z3 c30 c31 c32 c33 c34 c35 c36 c37 c38 c39 c3a
 clear H4
 have H9:=Lib.hid hHeld
 clear hHeld
 have F10:=H9.out.sees
 simp only [sees,kCells,cellsFrom,Nat.add_zero,Nat.reduceAdd] at F10
 obtain ⟨⟨z0,c00,-⟩,⟨z1,c10,-⟩,⟨z2,c20,-⟩,⟨z3,c30,c31,c32,c33,c34,c35,c36,c37,c38,c39,c3a,-⟩,-⟩:=F10
 go_wp2_with fail
 go_ret
 exact ⟨by rw [HR.out]; rfl,H9.out.bel⟩
theorem tclo_ge (p q tb tz tl tc kb kn kc k j nk vk:Nat) (vn:Int) (vt:List UInt8) (r1 r2 r3 r4 op:Int) (fn nn:Nat) (least S:Int) (X R:ByteArray) (w:World) (ps:List Pers)
  (hok:Ok w (kCells p 0 [.slice (some ⟨tb,tz,none⟩) tl tc]::kCells q 0 [.slice (some ⟨kb,0,none⟩) kn kc]::kCells kb k [.int .i64 (j:Nat)]::kCells tb (tz+j * 11) [.int .u8 nk,.int .u8 vk,.int .i64 vn,.string ⟨vt.toArray⟩,.int .i64 r1,.int .i64 r2,.int .i64 r3,.int .i64 r4,.int .i64 op,.int .u8 fn,.int .i64 nn]::ps) w)
  (hk:k<kn) (hj:j<tl) (hR:R=X)
  (HIH:Keep (∀ w2,Below w.heap.size w w2→Calls Tryz.prog 58 #[.slice (some ⟨tb,tz,none⟩) tl tc,.int .i64 (j:Nat)] w2 fun e w'=>e=.returned (.string X)∧Below w2.heap.size w2 w'))
  (HST:Keep (∀ w2,Calls Tryz.prog 92 #[.agg #[.int .u8 nk,.int .u8 vk,.int .i64 vn,.string ⟨vt.toArray⟩,.int .i64 r1,.int .i64 r2,.int .i64 r3,.int .i64 r4,.int .i64 op,.int .u8 fn,.int .i64 nn]] w2 fun e w'=>e=.returned (.int .i64 S)∧Below w2.heap.size w2 w')) (hlt:¬ S<least) :
  Calls Tryz.prog 91 #[.int .i64 (k:Nat),.int .i64 least,.pointer (some ⟨p,0,none⟩),.pointer (some ⟨q,0,none⟩)] w fun e w'=>e=.returned (.string R)∧Below w.heap.size w w':=by
 have H1:Hid (Ok w [kCells p 0 [.slice (some ⟨tb,tz,none⟩) tl tc],kCells q 0 [.slice (some ⟨kb,0,none⟩) kn kc],kCells kb k [.int .i64 (j:Nat)],kCells tb (tz+j * 11) [.int .u8 nk,.int .u8 vk,.int .i64 vn,.string ⟨vt.toArray⟩,.int .i64 r1,.int .i64 r2,.int .i64 r3,.int .i64 r4,.int .i64 op,.int .u8 fn,.int .i64 nn]] w):=Lib.hid (hok.drop _ (by
  intro x hx
  simp only [List.mem_cons,List.not_mem_nil,or_false] at hx ⊢
  rcases hx with h | h | h | h <;> simp [h]))
 clear hok
 have HR:=keep hR
 clear hR
 have hki:(k:Int)<(kn:Int):=by omega
 have hji:(j:Int)<(tl:Int):=by omega
 go_enter Tryz.func91,Tryz.ntmps91
 go_upto_region 1 with fail
 refine wp_region_held_drew (S:=fun W=>Ok w [kCells p 0 [.slice (some ⟨tb,tz,none⟩) tl tc],kCells q 0 [.slice (some ⟨kb,0,none⟩) kn kc],kCells kb k [.int .i64 (j:Nat)],kCells tb (tz+j * 11) [.int .u8 nk,.int .u8 vk,.int .i64 vn,.string ⟨vt.toArray⟩,.int .i64 r1,.int .i64 r2,.int .i64 r3,.int .i64 r4,.int .i64 op,.int .u8 fn,.int .i64 nn]] W) (by kernel_rfl) H1.out.drew (fun hHeld => ?_)
 refine wt3 (i:=0) rfl (by assumption) ?_
 refine wt3 (i:=1) rfl (by assumption) ?_
 refine wt3 (i:=2) rfl (by assumption) ?_
 refine wt3 (i:=3) rfl (by assumption) ?_
 refine wt3 (i:=4) rfl (by assumption) ?_
 refine wal (i:=5) rfl (fun K hK => ?_)
 go_simp
 refine (HIH.out _ hHeld.bel).mono ?_
 rintro e w2 ⟨rfl,hb3⟩
 go_wp2_with fail
 refine hK.out _ _ (hHeld.below hb3) (fun hHeld => ?_)
 clear hK K
 try simp only [Act.put,wp1,wp2,wp3,wp4,wp5,wp6]
 refine wt3 (i:=6) rfl (by assumption) ?_
 refine wpAnyH_done (by kernel_rfl) ?_ _
 clear H1
 have H4:=Lib.hid hHeld
 clear hHeld
 have F5:=H4.out.sees
 simp only [sees,kCells,cellsFrom,Nat.add_zero,Nat.reduceAdd] at F5
 obtain ⟨⟨z0,c00,-⟩,⟨z1,c10,-⟩,⟨z2,c20,-⟩,⟨z3,c30,c31,c32,c33,c34,c35,c36,c37,c38,c39,c3a,-⟩,-⟩:=F5
 go_upto_region 2 with fail
 refine wp_region_held_drew (S:=fun W=>Ok w [kCells p 0 [.slice (some ⟨tb,tz,none⟩) tl tc],kCells q 0 [.slice (some ⟨kb,0,none⟩) kn kc],kCells kb k [.int .i64 (j:Nat)],kCells tb (tz+j * 11) [.int .u8 nk,.int .u8 vk,.int .i64 vn,.string ⟨vt.toArray⟩,.int .i64 r1,.int .i64 r2,.int .i64 r3,.int .i64 r4,.int .i64 op,.int .u8 fn,.int .i64 nn]] W) (by kernel_rfl) H4.out.drew (fun hHeld => ?_)
 refine wt3 (i:=0) rfl (by assumption) ?_
 refine wt3 (i:=1) rfl (by assumption) ?_
 refine wt3 (i:=2) rfl (by assumption) ?_
 refine wt3 (i:=3) rfl (by assumption) ?_
 refine wt3 (i:=4) rfl (by assumption) ?_
 refine wt3 (i:=5) rfl (by assumption) ?_
 refine wt3 (i:=6) rfl (by assumption) ?_
 refine wt3 (i:=8) rfl (by assumption) ?_
 refine wal (i:=7) rfl (fun K hK => ?_)
 go_simp
 refine (HST.out _).mono ?_
 rintro e w7 ⟨rfl,hb8⟩
 go_wp2_with fail
 refine hK.out _ _ (hHeld.below hb8) (fun hHeld => ?_)
 clear hK K
 try simp only [Act.put,wp1,wp2,wp3,wp4,wp5,wp6]
 refine wt3 (i:=9) rfl (by assumption) ?_
 refine wpAnyH_done (by kernel_rfl) ?_ _
 clear z0 c00 z1 c10 z2 c20 z3 c30 c31 c32 c33 c34 c35 c36 c37 c38 c39 c3a
 clear H4
 have H9:=Lib.hid hHeld
 clear hHeld
 have F10:=H9.out.sees
 simp only [sees,kCells,cellsFrom,Nat.add_zero,Nat.reduceAdd] at F10
 obtain ⟨⟨z0,c00,-⟩,⟨z1,c10,-⟩,⟨z2,c20,-⟩,⟨z3,c30,c31,c32,c33,c34,c35,c36,c37,c38,c39,c3a,-⟩,-⟩:=F10
 go_wp2_with fail
 go_ret
 exact ⟨by rw [HR.out]; rfl,H9.out.bel⟩
structure TChk (t:List Nd):Prop where
 good:∀ n∈t,goodNd n∧n.vn≤9223372036854775807
 chk:checkA (t.map Nd.any)=0
 len:t.length≤256
 kids:∀ k n,t[k]?=some n→(kidsS t k).length=belowS n
structure TIn (t:List Nd) (tb tz:Nat) (w:World):Prop where
 rows:RowsAt w (some ⟨tb,tz,none⟩) 11 (t.map ndRow)
 env:WEnv w
theorem TIn.below {t:List Nd} {tb tz:Nat} {w w':World} (h:TIn t tb tz w) (hb:Below w.heap.size w w'):TIn t tb tz w':=⟨h.rows.below hb,h.env.below hb⟩
def TextAt (t:List Nd) (tb tz tc i:Nat):Prop:=∀ w,TIn t tb tz w →
 Calls Tryz.prog 58 #[.slice (some ⟨tb,tz,none⟩) t.length tc,.int .i64 (i:Nat)] w fun e w'=>e=.returned (.string ⟨(txAt t i).1.toArray⟩)∧Below w.heap.size w w'
theorem TIn.node {t:List Nd} {tb tz:Nat} {w:World} (h:TIn t tb tz w) {i:Nat} {n:Nd} (hn:t[i]?=some n):tb<w.heap.size∧cellsFrom w tb (tz+i * 11) 0 (ndRow n):=by
 obtain ⟨b,o,hbo,hlt,hc⟩:=h.rows (by intro e; have h9:=congrArg List.length e; rw [List.length_map] at h9; have:=(List.getElem?_eq_some_iff.1 hn).1; simp only [List.length_nil] at h9; omega)
 simp only [Option.some.injEq,Addr.mk.injEq,and_true] at hbo
 obtain ⟨rfl,rfl⟩:=hbo
 refine ⟨hlt,cells_of _ fun j v hj => ?_⟩
 have:=hc i (ndRow n) (by rw [List.getElem?_map,hn]; rfl) j v hj
 rwa [← Nat.add_assoc] at this
theorem opT_zero (x:Tx):opT 0 x=x.1:=if_pos (Nat.zero_le _)
theorem clo_at {t:List Nd} {tb tz tc i k l p q B:Nat} {kv:Value} {W:World} (hc:TChk t) (hi:i<t.length) (IH:∀ j,j<i→TextAt t tb tz tc j) (hin:TIn t tb tz W) (hp:Blk W p 29 #[.slice (some ⟨tb,tz,none⟩) t.length tc]) (hq:Blk W q 125 #[kv])
  (hrow:W.ownsRow B 3 1 kv (kidsS t i).length ((kidsS t i).map fun x=>.int .i64 (x:Nat))) (hk:k<(kidsS t i).length) :
  Calls Tryz.prog 91 #[.int .i64 (k:Nat),.int .i64 (l:Nat),.pointer (some ⟨p,0,none⟩),.pointer (some ⟨q,0,none⟩)] W fun e w'=>e=.returned (.string ⟨(opT l (txAt t (kidsS t i)[k])).toArray⟩)∧Below W.heap.size W w':=by
 obtain ⟨j,hj⟩:∃ j,(kidsS t i)[k]=j:=⟨_,rfl⟩
 rw [hj]
 have hji:j<i:=kids_lt t i j (by rw [← hj]; exact List.getElem_mem _)
 obtain ⟨n,hn⟩:∃ n,t[j]?=some n:=⟨_,List.getElem?_eq_getElem (by omega)⟩
 have hg:=hc.good n (List.mem_of_getElem? hn)
 obtain ⟨h1,h2⟩:=hin.node hn
 have hcell:=@World.ownsRow.cells _ _ _ _ _ _ _ hrow
 rcases hrow.2 with ⟨rfl,h0⟩ | ⟨g,cap,cur,rfl,h4,h5,h6,h7,h8,h9⟩
 ·omega
 have hkc:=hcell rfl k (.int .i64 (j:Nat)) (by rw [List.getElem?_map,List.getElem?_eq_getElem hk,hj]; rfl)
 rw [show (⟨g,0,none⟩:Addr).add k=⟨g,0+k,none⟩ by unfold Addr.add; split <;> simp_all,Nat.zero_add] at hkc
 have hglt:=(hrow.lt g rfl).2
 have hstr:(txAt t j).2=strT n:=by
  rw [tx_eq hn]
  refine str_com n _ ?_
  rcases hg.1 with ⟨_,_,_,rfl,_⟩ | ⟨_,rfl,_⟩ | ⟨_,rfl,_⟩ | rfl | rfl | ⟨_,rfl,_⟩ | ⟨_,_,rfl,_⟩ <;> simp [ndRef,ndRange,ndNeg,ndPct,ndBin,ndCall]
 obtain ⟨nk,vk,vn,vt,⟨r1,r2,r3,r4⟩,op,fn,nn⟩:=n
 have hok:Ok W (kCells p 0 [.slice (some ⟨tb,tz,none⟩) t.length tc]::kCells q 0 [.slice (some ⟨g,0,none⟩) (kidsS t i).length cap]::kCells g k [.int .i64 (j:Nat)]::kCells tb (tz+j * 11) [.int .u8 nk,.int .u8 vk,.int .i64 vn,.string ⟨vt.toArray⟩,.int .i64 r1,.int .i64 r2,.int .i64 r3,.int .i64 r4,.int .i64 op,.int .u8 fn,.int .i64 nn]::[]) W:=by
  refine ((((Ok.start W).add (kCells tb (tz+j * 11) [.int .u8 nk,.int .u8 vk,.int .i64 vn,.string ⟨vt.toArray⟩,.int .i64 r1,.int .i64 r2,.int .i64 r3,.int .i64 r4,.int .i64 op,.int .u8 fn,.int .i64 nn]) ⟨h1,h2⟩).add (kCells g k [.int .i64 (j:Nat)]) ⟨hglt,hkc,trivial⟩).add (kCells q 0 [.slice (some ⟨g,0,none⟩) (kidsS t i).length cap]) ⟨hq.lt,?_,trivial⟩).add (kCells p 0 [.slice (some ⟨tb,tz,none⟩) t.length tc]) ⟨hp.lt,?_,trivial⟩
  ·exact hq.cell 0
  ·exact hp.cell 0
 have hih:Keep (∀ w2,Below W.heap.size W w2→Calls Tryz.prog 58 #[.slice (some ⟨tb,tz,none⟩) t.length tc,.int .i64 (j:Nat)] w2 fun e w'=>e=.returned (.string ⟨(txAt t j).1.toArray⟩)∧Below w2.heap.size w2 w'):=keep fun w2 hb=>IH j hji w2 (hin.below hb)
 have hst:Keep (∀ w2,Calls Tryz.prog 92 #[.agg #[.int .u8 nk,.int .u8 vk,.int .i64 vn,.string ⟨vt.toArray⟩,.int .i64 r1,.int .i64 r2,.int .i64 r3,.int .i64 r4,.int .i64 op,.int .u8 fn,.int .i64 nn]] w2 fun e w'=>e=.returned (.int .i64 (strT ⟨nk,vk,vn,vt,⟨r1,r2,r3,r4⟩,op,fn,nn⟩:Nat))∧Below w2.heap.size w2 w'):=keep fun w2=>show_strength ⟨nk,vk,vn,vt,⟨r1,r2,r3,r4⟩,op,fn,nn⟩ hg.1 w2
 by_cases hlt:l≤(txAt t j).2
 ·refine tclo_ge p q tb tz t.length tc g (kidsS t i).length cap k j nk vk vn vt r1 r2 r3 r4 op fn nn (l:Nat) _ _ _ W [] hok hk (by omega) ?_ hih hst (by rw [hstr] at hlt; omega)
  unfold opT
  rw [if_pos hlt]
 ·refine tclo_lt p q tb tz t.length tc g (kidsS t i).length cap k j nk vk vn vt r1 r2 r3 r4 op fn nn (l:Nat) _ _ _ W [] hok hk (by omega) ?_ ?_ hih hst (by rw [hstr] at hlt; omega)
  ·have:=tx_len t hc.good j (by omega)
   have:=hc.len
   show (txAt t j).1.toArray.size≤_
   rw [List.size_toArray]
   omega
  unfold opT
  rw [if_neg hlt]
  show _=(⟨[40].toArray⟩:ByteArray)++⟨(txAt t j).1.toArray⟩++⟨[41].toArray⟩
  rw [bytes_append,bytes_append]
  simp
