/- The contracts of what op.Parse defers, and of op.Parse. The contract of op.Parse. -/
import Derived.Test.YtjbimcdofenmdaaGreatDoorMOpI
import Derived.Test.YtjbimcdofenmdaaGreatDoorMOpJ
import Derived.Defers
import Derived.Recover
namespace Go.Proofs.YtjbimcdofenmdaaGreatDoor
open Go.RowKit
set_option maxRecDepth 100000 in
set_option maxHeartbeats 4000000 in
theorem ocatch_fault (w0 : World) (xb eb : Nat) (p0 p1 p2 p3 p4 p5 p6 p7 p8 p9 p10 p11 p12 ev : Value) (w : World) (hx : w0.heap.size ≤ xb) (he : w0.heap.size ≤ eb) (h12 : xb ≠ eb) (h : Ok w0 [kVar xb 28 [p0,p1,p2,p3,p4,p5,p6,p7,p8,p9,p10,p11,p12],kVar eb 32 [ev]] w) :
  CallsD Tryz.prog 38 #[.pointer (some ⟨xb,0,none⟩),.pointer (some ⟨eb,0,none⟩)] (.panicking faultO) w fun e u' w' =>
   e = .returned (.tuple #[]) ∧ u' = .panicking [{ v:=.iface 60 (.agg #[]),recovered:=true }] ∧ Ok w0 [kVar xb 28 [.int .u8 0,.int .i64 0,.int .i64 0,.int .i64 0,.int .i64 0,.int .i64 0,.string ⟨#[]⟩,.int .u64 0,.int .u64 0,.int .u64 0,.int .u8 0,.int .u64 0,.int .i64 0],kVar eb 32 [.int .i64 4]] w':=by
 have hta : ∀ w : World,(Instr.typeAssert (.iface 60 (.agg #[])) 20 60 true).run Tryz.prog w = .ok (.tuple #[.agg #[],.bool true]) w:=fun _ => by kernel_rfl
 have H:=Lib.hid h
 clear h
 refine callsD_of_wpS Tryz.func38 rfl fun c₀ cs hu => ?_
 apply wpS_seq
 apply wpS_region
 rw [show List.range (Array.size _) = [0,1,2,3,4,5,6,7] from rfl]
 obtain ⟨cm,hcm⟩ : ∃ cm,({ c₀ with mode:=.panicking [{ v:=.iface 60 (.agg #[]),recovered:=true }] } : Frame) = cm:=⟨_,rfl⟩
 have hrc : recoverD (c₀ :: cs) = some (.iface 60 (.agg #[]),cm :: cs):=by rw [← hcm]; simp only [recoverD,hu,faultO]
 rw [wpOpsS]
 simp [go_sem,hrc,Tryz.ntmps38]
 rw [wpOpsS]
 simp [go_sem,hta]
 rw [wpOpsS]
 simp [go_sem]
 rw [wpOpsS]
 simp [go_sem]
 rw [wpOpsS]
 simp [go_sem]
 rw [wpOpsS]
 simp [go_sem]
 rw [wpOpsS]
 simp [go_sem]
 rw [wpOpsS]
 simp [go_sem]
 rw [wpOpsS]
 simp only [Exit.thenS]
 refine wpS_of_wp ?_
 have F:=H.out.sees
 simp only [sees,kVar,cellsAt,Nat.reduceAdd] at F
 obtain ⟨⟨⟨z0,f0⟩,q0,q1,q2,q3,q4,q5,q6,q7,q8,q9,q10,q11,q12,-⟩,⟨⟨z1,f1⟩,c1,-⟩,-⟩:=F
 have hf1 : ∀ x ∈ [kVar eb 32 [ev]],x.far (some xb):=by simp [kVar]; omega
 have hf2 : ∀ x ∈ [kVar xb 28 [.int .u8 0,.int .i64 0,.int .i64 0,.int .i64 0,.int .i64 0,.int .i64 0,.string ⟨#[]⟩,.int .u64 0,.int .u64 0,.int .u64 0,.int .u8 0,.int .u64 0,.int .i64 0]],x.far (some eb):=by simp [kVar]; omega
 have HE:=Lib.hid (((((((((((((((((H.out.set_ (i:=0) (u:=.int .u8 0) hx hf1).set_ (i:=1) (u:=.int .i64 0) hx hf1).set_ (i:=2) (u:=.int .i64 0) hx hf1).set_ (i:=3) (u:=.int .i64 0) hx hf1).set_ (i:=4) (u:=.int .i64 0) hx hf1).set_ (i:=5) (u:=.int .i64 0) hx hf1).set_ (i:=6) (u:=.string ⟨#[]⟩) hx hf1).set_ (i:=7) (u:=.int .u64 0) hx hf1).set_ (i:=8) (u:=.int .u64 0) hx hf1).set_ (i:=9) (u:=.int .u64 0) hx hf1).set_ (i:=10) (u:=.int .u8 0) hx hf1).set_ (i:=11) (u:=.int .u64 0) hx hf1).set_ (i:=12) (u:=.int .i64 0) hx hf1).drop [kVar eb 32 [ev],kVar xb 28 [.int .u8 0,.int .i64 0,.int .i64 0,.int .i64 0,.int .i64 0,.int .i64 0,.string ⟨#[]⟩,.int .u64 0,.int .u64 0,.int .u64 0,.int .u8 0,.int .u64 0,.int .i64 0]] (by simp)).set_ (i:=0) (u:=.int .i64 4) he hf2).drop [kVar xb 28 [.int .u8 0,.int .i64 0,.int .i64 0,.int .i64 0,.int .i64 0,.int .i64 0,.string ⟨#[]⟩,.int .u64 0,.int .u64 0,.int .u64 0,.int .u8 0,.int .u64 0,.int .i64 0],kVar eb 32 [.int .i64 4]] (by simp)).alloc_obj (.cells #[] 60))
 clear hf1 hf2
 go_wp2_with fail
 subst hcm
 exact ⟨rfl,_,rfl,_,results_none rfl _ _ _,rfl,rfl,HE.out⟩
set_option maxRecDepth 100000 in
set_option maxHeartbeats 4000000 in
theorem ocatch_none (xb eb : Nat) (w : World) :
  CallsD Tryz.prog 38 #[.pointer (some ⟨xb,0,none⟩),.pointer (some ⟨eb,0,none⟩)] .returning w fun e u' w' => e = .returned (.tuple #[]) ∧ u' = .returning ∧ Below w.heap.size w w':=by
 have hta : ∀ w : World,(Instr.typeAssert .nilIface 20 60 true).run Tryz.prog w = .ok (.tuple #[.agg #[],.bool false]) w:=fun _ => by kernel_rfl
 refine callsD_of_wpS Tryz.func38 rfl fun c₀ cs hu => ?_
 apply wpS_seq
 apply wpS_region
 rw [show List.range (Array.size _) = [0,1,2,3,4,5,6,7] from rfl]
 have hrc : recoverD (c₀ :: cs) = none:=by simp only [recoverD,hu]
 rw [wpOpsS]
 simp [go_sem,hrc,Tryz.ntmps38]
 rw [wpOpsS]
 simp [go_sem,hta]
 rw [wpOpsS]
 simp [go_sem]
 rw [wpOpsS]
 simp [go_sem]
 rw [wpOpsS]
 simp [go_sem]
 rw [wpOpsS]
 simp [go_sem]
 rw [wpOpsS]
 simp [go_sem]
 rw [wpOpsS]
 simp [go_sem]
 rw [wpOpsS]
 simp only [Exit.thenS]
 refine wpS_of_wp ?_
 go_wp2_with fail
 cases c₀
 simp only [] at hu
 subst hu
 exact ⟨rfl,_,rfl,_,results_none rfl _ _ _,rfl,rfl,(Below.refl _ _).alloc (Nat.le_refl _) _⟩
def ParseOut (l : List UInt8) (w : World) (e : Ending) (w' : World) : Prop:=∃ x err,e = .returned (.tuple #[OpV.V x,.int .i64 err]) ∧ ParsedAs l x err ∧ Below w.heap.size w w'
end Go.Proofs.YtjbimcdofenmdaaGreatDoor
namespace Go.Proofs.YtjbimcdofenmdaaGreatDoor
open Go.RowKit
set_option maxRecDepth 100000 in
set_option maxHeartbeats 4000000 in
theorem op_Parse (l : List UInt8) (w : World) (hs : l.length ≤ 100000) (he : Env6 w) : Calls Tryz.prog 19 #[.string ⟨l.toArray⟩] w (ParseOut l w):=by
 have HE:=keep he
 have HS:=keep hs
 clear he hs
 have H0:=Lib.hid (((Ok.start w).var w.heap.size 28 [.int .u8 0,.int .i64 0,.int .i64 0,.int .i64 0,.int .i64 0,.int .i64 0,.string ⟨#[]⟩,.int .u64 0,.int .u64 0,.int .u64 0,.int .u8 0,.int .u64 0,.int .i64 0] rfl).var (w.heap.size + 1) 32 [.int .i64 0] (by simp))
 have hmf : ∀ (fn : Fn) (first cap : Array Value) (w : World),(Instr.makeFunc fn first cap).run Tryz.prog w = .ok (.func fn first cap) w:=fun _ _ _ _ => rfl
 obtain ⟨R,hR⟩ : ∃ R,ParseOut l w = R:=⟨_,rfl⟩
 rw [hR]
 go_enter_defers Tryz.func19,Tryz.ntmps19
 go_wp2_with fail
 clear hmf
 generalize ((w.alloc (.cells #[.int .u8 0,.int .i64 0,.int .i64 0,.int .i64 0,.int .i64 0,.int .i64 0,.string ⟨#[]⟩,.int .u64 0,.int .u64 0,.int .u64 0,.int .u8 0,.int .u64 0,.int .i64 0] 28)).alloc (.cells #[.int .i64 0] 32)) = W1 at H0 ⊢
 have H1:=Lib.hid (H0.out.drop [kVar w.heap.size 28 [.int .u8 0,.int .i64 0,.int .i64 0,.int .i64 0,.int .i64 0,.int .i64 0,.string ⟨#[]⟩,.int .u64 0,.int .u64 0,.int .u64 0,.int .u8 0,.int .u64 0,.int .i64 0],kVar (w.heap.size + 1) 32 [.int .i64 0]] (by simp))
 clear H0
 obtain ⟨o,ho⟩ : ∃ o,readV l = o:=⟨_,rfl⟩
 have HO:=keep ho
 refine (op_read l W1 HS.out (HE.out.below H1.out.bel)).mono ?_
 rw [ho]
 clear ho
 rcases o with _ | x
 ·rintro e w2 ⟨rfl,hb⟩
  have H2:=Lib.hid (H1.out.below hb)
  clear hb H1
  go_wp2_with fail
  refine leaves_cons (f:=38) (args:=#[.pointer (some ⟨w.heap.size,0,none⟩),.pointer (some ⟨w.heap.size + 1,0,none⟩)]) (by simp) (by simp [go_sem]) ?_
  refine (ocatch_fault w _ _ _ _ _ _ _ _ _ _ _ _ _ _ _ _ _ (Nat.le_refl _) (by omega) (by omega) H2.out).mono ?_
  rintro e u' w99 ⟨rfl,rfl,hok⟩
  have HZ:=Lib.hid hok
  clear hok
  have F:=HZ.out.sees
  simp only [sees,kVar,cellsAt,Nat.reduceAdd] at F
  obtain ⟨⟨-,g0,g1,g2,g3,g4,g5,g6,g7,g8,g9,g10,g11,g12,-⟩,⟨-,g13,-⟩,-⟩:=F
  subst hR
  simp [Leaves,settle,results,Tryz.results19,go_sem,g0,g1,g2,g3,g4,g5,g6,g7,g8,g9,g10,g11,g12,g13]
  exact ⟨OpV.zero,4,rfl,parsed_none HO.out,HZ.out.bel⟩
 ·rintro e w2 ⟨rfl,hb⟩
  have H2:=Lib.hid (H1.out.below hb)
  clear hb H1
  have HXO:=keep (read_ok HO.out)
  have HFM:=keep (fun w hw => op_Format x HXO.out.1 (Nat.le_trans HXO.out.2 (by decide)) w hw)
  obtain ⟨Q,hQ⟩ : ∃ Q,formatV x = Q:=⟨_,rfl⟩
  have HQ:=keep hQ
  rw [hQ] at HFM
  clear hQ
  obtain ⟨k,u,⟨x1,y1,x2,y2⟩,inp,a,b,c,f,t,n⟩:=x
  obtain ⟨fs,fe⟩:=Q
  have HF2 : Keep (∀ w : World,Env6 w → Calls Tryz.prog 11 #[.agg #[.int .u8 (k : Nat),.int .i64 u,.int .i64 x1,.int .i64 y1,.int .i64 x2,.int .i64 y2,.string ⟨inp.toArray⟩,.int .u64 (a : Nat),.int .u64 (b : Nat),.int .u64 (c : Nat),.int .u8 (f : Nat),.int .u64 (t : Nat),.int .i64 n]] w fun e w' => e = .returned (.tuple #[.string ⟨fs.toArray⟩,.int .i64 fe]) ∧ Below w.heap.size w w'):=HFM
  clear HFM
  simp only [OpV.V]
  have F:=H2.out.sees
  simp only [sees,kVar,cellsAt,Nat.reduceAdd] at F
  obtain ⟨⟨⟨z0,f0⟩,q0,q1,q2,q3,q4,q5,q6,q7,q8,q9,q10,q11,q12,-⟩,⟨⟨z1,f1⟩,c1,-⟩,-⟩:=F
  go_upto_region 3 with fail
  have hf1 : ∀ ev,∀ x ∈ [kVar (w.heap.size + 1) 32 [ev]],x.far (some w.heap.size):=by simp [kVar]
  have hf2 : ∀ x ∈ [kVar w.heap.size 28 [.int .u8 (k : Nat),.int .i64 u,.int .i64 x1,.int .i64 y1,.int .i64 x2,.int .i64 y2,.string ⟨inp.toArray⟩,.int .u64 (a : Nat),.int .u64 (b : Nat),.int .u64 (c : Nat),.int .u8 (f : Nat),.int .u64 (t : Nat),.int .i64 n]],x.far (some (w.heap.size + 1)):=by simp [kVar]
  have H3 : Hid (Ok w [kVar w.heap.size 28 [.int .u8 (k : Nat),.int .i64 u,.int .i64 x1,.int .i64 y1,.int .i64 x2,.int .i64 y2,.string ⟨inp.toArray⟩,.int .u64 (a : Nat),.int .u64 (b : Nat),.int .u64 (c : Nat),.int .u8 (f : Nat),.int .u64 (t : Nat),.int .i64 n],kVar (w.heap.size + 1) 32 [.int .i64 0]] _):=Lib.hid (((((((((((((H2.out.set_ (i:=0) (u:=.int .u8 (k : Nat)) (Nat.le_refl _) (hf1 _)).set_ (i:=1) (u:=.int .i64 u) (Nat.le_refl _) (hf1 _)).set_ (i:=2) (u:=.int .i64 x1) (Nat.le_refl _) (hf1 _)).set_ (i:=3) (u:=.int .i64 y1) (Nat.le_refl _) (hf1 _)).set_ (i:=4) (u:=.int .i64 x2) (Nat.le_refl _) (hf1 _)).set_ (i:=5) (u:=.int .i64 y2) (Nat.le_refl _) (hf1 _)).set_ (i:=6) (u:=.string ⟨inp.toArray⟩) (Nat.le_refl _) (hf1 _)).set_ (i:=7) (u:=.int .u64 (a : Nat)) (Nat.le_refl _) (hf1 _)).set_ (i:=8) (u:=.int .u64 (b : Nat)) (Nat.le_refl _) (hf1 _)).set_ (i:=9) (u:=.int .u64 (c : Nat)) (Nat.le_refl _) (hf1 _)).set_ (i:=10) (u:=.int .u8 (f : Nat)) (Nat.le_refl _) (hf1 _)).set_ (i:=11) (u:=.int .u64 (t : Nat)) (Nat.le_refl _) (hf1 _)).set_ (i:=12) (u:=.int .i64 n) (Nat.le_refl _) (hf1 _))
  clear H2 z0 f0 q0 q1 q2 q3 q4 q5 q6 q7 q8 q9 q10 q11 q12 z1 f1 c1
  generalize (((((((((((((w2.setCell ⟨w.heap.size,0,none⟩ (.int .u8 (k : Nat))).setCell ⟨w.heap.size,1,none⟩ (.int .i64 u)).setCell ⟨w.heap.size,2,none⟩ (.int .i64 x1)).setCell ⟨w.heap.size,3,none⟩ (.int .i64 y1)).setCell ⟨w.heap.size,4,none⟩ (.int .i64 x2)).setCell ⟨w.heap.size,5,none⟩ (.int .i64 y2)).setCell ⟨w.heap.size,6,none⟩ (.string ⟨inp.toArray⟩)).setCell ⟨w.heap.size,7,none⟩ (.int .u64 (a : Nat))).setCell ⟨w.heap.size,8,none⟩ (.int .u64 (b : Nat))).setCell ⟨w.heap.size,9,none⟩ (.int .u64 (c : Nat))).setCell ⟨w.heap.size,10,none⟩ (.int .u8 (f : Nat))).setCell ⟨w.heap.size,11,none⟩ (.int .u64 (t : Nat))).setCell ⟨w.heap.size,12,none⟩ (.int .i64 n)) = W3 at H3 ⊢
  have F:=H3.out.sees
  simp only [sees,kVar,cellsAt,Nat.reduceAdd] at F
  obtain ⟨⟨⟨z0,f0⟩,q0,q1,q2,q3,q4,q5,q6,q7,q8,q9,q10,q11,q12,-⟩,-⟩:=F
  go_wp2_with fail
  refine (HF2.out _ (HE.out.below H3.out.bel)).mono ?_
  rintro e w4 ⟨rfl,hb⟩
  have H4:=Lib.hid (H3.out.below hb)
  clear hb H3 z0 f0 q0 q1 q2 q3 q4 q5 q6 q7 q8 q9 q10 q11 q12
  have F:=H4.out.sees
  simp only [sees,kVar,cellsAt,Nat.reduceAdd] at F
  obtain ⟨-,⟨⟨z1,f1⟩,c1,-⟩,-⟩:=F
  go_upto_region 4 with fail
  have H5 : Hid (Ok w [kVar w.heap.size 28 [.int .u8 (k : Nat),.int .i64 u,.int .i64 x1,.int .i64 y1,.int .i64 x2,.int .i64 y2,.string ⟨inp.toArray⟩,.int .u64 (a : Nat),.int .u64 (b : Nat),.int .u64 (c : Nat),.int .u8 (f : Nat),.int .u64 (t : Nat),.int .i64 n],kVar (w.heap.size + 1) 32 [.int .i64 fe]] (w4.setCell ⟨w.heap.size + 1,0,none⟩ (.int .i64 fe))):=Lib.hid (((H4.out.drop [kVar (w.heap.size + 1) 32 [.int .i64 0],kVar w.heap.size 28 [.int .u8 (k : Nat),.int .i64 u,.int .i64 x1,.int .i64 y1,.int .i64 x2,.int .i64 y2,.string ⟨inp.toArray⟩,.int .u64 (a : Nat),.int .u64 (b : Nat),.int .u64 (c : Nat),.int .u8 (f : Nat),.int .u64 (t : Nat),.int .i64 n]] (by simp)).set_ (i:=0) (u:=.int .i64 fe) (by omega) hf2).drop [kVar w.heap.size 28 [.int .u8 (k : Nat),.int .i64 u,.int .i64 x1,.int .i64 y1,.int .i64 x2,.int .i64 y2,.string ⟨inp.toArray⟩,.int .u64 (a : Nat),.int .u64 (b : Nat),.int .u64 (c : Nat),.int .u8 (f : Nat),.int .u64 (t : Nat),.int .i64 n],kVar (w.heap.size + 1) 32 [.int .i64 fe]] (by simp))
  clear H4 z1 f1 c1
  generalize (w4.setCell ⟨w.heap.size + 1,0,none⟩ (.int .i64 fe)) = W5 at H5 ⊢
  have F:=H5.out.sees
  simp only [sees,kVar,cellsAt,Nat.reduceAdd] at F
  obtain ⟨⟨⟨z0,f0⟩,q0,q1,q2,q3,q4,q5,q6,q7,q8,q9,q10,q11,q12,-⟩,⟨⟨z1,f1⟩,c1,-⟩,-⟩:=F
  have hsame:=bytes_same fs l
  by_cases hfe : fe = 0
  case neg =>
   have hfb : (fe == 0) = false:=by simpa using hfe
   have HN:=keep (show formatV ⟨k,u,⟨x1,y1,x2,y2⟩,inp,a,b,c,f,t,n⟩ ≠ (l,0) by rw [HQ.out]; intro e; exact hfe (Prod.mk.inj e).2)
   clear hfe hsame
   go_wp2_with fail
   refine (op_must_no W5 _ (Below.refl _ _)).mono ?_
   rintro e w6 ⟨rfl,hb⟩
   have H6:=Lib.hid (H5.out.below hb)
   clear hb H5 z0 f0 q0 q1 q2 q3 q4 q5 q6 q7 q8 q9 q10 q11 q12 z1 f1 c1
   go_wp2_with fail
   refine leaves_cons (f:=38) (args:=#[.pointer (some ⟨w.heap.size,0,none⟩),.pointer (some ⟨w.heap.size + 1,0,none⟩)]) (by simp) (by simp [go_sem]) ?_
   refine (ocatch_fault w _ _ _ _ _ _ _ _ _ _ _ _ _ _ _ _ _ (Nat.le_refl _) (by omega) (by omega) H6.out).mono ?_
   rintro e u' w99 ⟨rfl,rfl,hok⟩
   have HZ:=Lib.hid hok
   clear hok
   have F:=HZ.out.sees
   simp only [sees,kVar,cellsAt,Nat.reduceAdd] at F
   obtain ⟨⟨-,g0,g1,g2,g3,g4,g5,g6,g7,g8,g9,g10,g11,g12,-⟩,⟨-,g13,-⟩,-⟩:=F
   subst hR
   simp [Leaves,settle,results,Tryz.results19,go_sem,g0,g1,g2,g3,g4,g5,g6,g7,g8,g9,g10,g11,g12,g13]
   exact ⟨OpV.zero,4,rfl,parsed_not HO.out HN.out,HZ.out.bel⟩
  subst hfe
  by_cases hfl : fs = l
  case neg =>
   have hsame2 : (fs == l) = false:=beq_eq_false_iff_ne.2 hfl
   rw [decide_eq_false hfl] at hsame
   have HN:=keep (show formatV ⟨k,u,⟨x1,y1,x2,y2⟩,inp,a,b,c,f,t,n⟩ ≠ (l,0) by rw [HQ.out]; intro e; exact hfl (Prod.mk.inj e).1)
   clear hfl
   go_wp2_with fail
   clear hsame hsame2
   refine (op_must_no W5 _ (Below.refl _ _)).mono ?_
   rintro e w6 ⟨rfl,hb⟩
   have H6:=Lib.hid (H5.out.below hb)
   clear hb H5 z0 f0 q0 q1 q2 q3 q4 q5 q6 q7 q8 q9 q10 q11 q12 z1 f1 c1
   go_wp2_with fail
   refine leaves_cons (f:=38) (args:=#[.pointer (some ⟨w.heap.size,0,none⟩),.pointer (some ⟨w.heap.size + 1,0,none⟩)]) (by simp) (by simp [go_sem]) ?_
   refine (ocatch_fault w _ _ _ _ _ _ _ _ _ _ _ _ _ _ _ _ _ (Nat.le_refl _) (by omega) (by omega) H6.out).mono ?_
   rintro e u' w99 ⟨rfl,rfl,hok⟩
   have HZ:=Lib.hid hok
   clear hok
   have F:=HZ.out.sees
   simp only [sees,kVar,cellsAt,Nat.reduceAdd] at F
   obtain ⟨⟨-,g0,g1,g2,g3,g4,g5,g6,g7,g8,g9,g10,g11,g12,-⟩,⟨-,g13,-⟩,-⟩:=F
   subst hR
   simp [Leaves,settle,results,Tryz.results19,go_sem,g0,g1,g2,g3,g4,g5,g6,g7,g8,g9,g10,g11,g12,g13]
   exact ⟨OpV.zero,4,rfl,parsed_not HO.out HN.out,HZ.out.bel⟩
  have hsame2 : (fs == l) = true:=by rw [hfl]; exact beq_self_eq_true l
  rw [decide_eq_true hfl] at hsame
  have HP:=keep (parsed_some HO.out (by rw [HQ.out,hfl]))
  clear hfl
  go_wp2_with fail
  refine (op_must_yes _).mono ?_
  rintro e w6 ⟨rfl,hw⟩
  obtain rfl : W5 = w6:=hw.symm
  clear hsame hsame2
  have H7:=Lib.hid ((((((((((((((((H5.out.set_ (i:=0) (u:=.int .u8 (k : Nat)) (Nat.le_refl _) (hf1 _)).set_ (i:=1) (u:=.int .i64 u) (Nat.le_refl _) (hf1 _)).set_ (i:=2) (u:=.int .i64 x1) (Nat.le_refl _) (hf1 _)).set_ (i:=3) (u:=.int .i64 y1) (Nat.le_refl _) (hf1 _)).set_ (i:=4) (u:=.int .i64 x2) (Nat.le_refl _) (hf1 _)).set_ (i:=5) (u:=.int .i64 y2) (Nat.le_refl _) (hf1 _)).set_ (i:=6) (u:=.string ⟨inp.toArray⟩) (Nat.le_refl _) (hf1 _)).set_ (i:=7) (u:=.int .u64 (a : Nat)) (Nat.le_refl _) (hf1 _)).set_ (i:=8) (u:=.int .u64 (b : Nat)) (Nat.le_refl _) (hf1 _)).set_ (i:=9) (u:=.int .u64 (c : Nat)) (Nat.le_refl _) (hf1 _)).set_ (i:=10) (u:=.int .u8 (f : Nat)) (Nat.le_refl _) (hf1 _)).set_ (i:=11) (u:=.int .u64 (t : Nat)) (Nat.le_refl _) (hf1 _)).set_ (i:=12) (u:=.int .i64 n) (Nat.le_refl _) (hf1 _)).drop [kVar (w.heap.size + 1) 32 [.int .i64 0],kVar w.heap.size 28 [.int .u8 (k : Nat),.int .i64 u,.int .i64 x1,.int .i64 y1,.int .i64 x2,.int .i64 y2,.string ⟨inp.toArray⟩,.int .u64 (a : Nat),.int .u64 (b : Nat),.int .u64 (c : Nat),.int .u8 (f : Nat),.int .u64 (t : Nat),.int .i64 n]] (by simp)).set_ (i:=0) (u:=.int .i64 0) (by omega) hf2).drop [kVar w.heap.size 28 [.int .u8 (k : Nat),.int .i64 u,.int .i64 x1,.int .i64 y1,.int .i64 x2,.int .i64 y2,.string ⟨inp.toArray⟩,.int .u64 (a : Nat),.int .u64 (b : Nat),.int .u64 (c : Nat),.int .u8 (f : Nat),.int .u64 (t : Nat),.int .i64 n],kVar (w.heap.size + 1) 32 [.int .i64 0]] (by simp))
  go_wp2_with fail
  have F:=H7.out.sees
  simp only [sees,kVar,cellsAt,Nat.reduceAdd] at F
  obtain ⟨⟨-,h0,h1,h2,h3,h4,h5,h6,h7,h8,h9,h10,h11,h12,-⟩,⟨-,g13,-⟩,-⟩:=F
  clear H5 z0 f0 q0 q1 q2 q3 q4 q5 q6 q7 q8 q9 q10 q11 q12 z1 f1 c1
  refine leaves_cons (f:=38) (args:=#[.pointer (some ⟨w.heap.size,0,none⟩),.pointer (some ⟨w.heap.size + 1,0,none⟩)]) (by simp) (by simp [go_sem]) ?_
  refine (ocatch_none _ _ _).mono ?_
  rintro e u' w99 ⟨rfl,rfl,hb⟩
  have HZ:=Lib.hid (H7.out.below hb)
  clear hb
  have F:=HZ.out.sees
  simp only [sees,kVar,cellsAt,Nat.reduceAdd] at F
  obtain ⟨⟨-,g0,g1,g2,g3,g4,g5,g6,g7,g8,g9,g10,g11,g12,-⟩,⟨-,g13,-⟩,-⟩:=F
  subst hR
  simp [Leaves,settle,results,Tryz.results19,go_sem,g0,g1,g2,g3,g4,g5,g6,g7,g8,g9,g10,g11,g12,g13]
  exact ⟨⟨k,u,⟨x1,y1,x2,y2⟩,inp,a,b,c,f,t,n⟩,0,rfl,HP.out,HZ.out.bel⟩
end Go.Proofs.YtjbimcdofenmdaaGreatDoor
