/- val.ToText and val.Show at the values of a cell. -/
import Derived.Test.YtdplcdhpnmcdjaaGreatDoorFTg
import Derived.Test.YtdplcdhpnmcdjaaGreatDoorFEqV
import Derived.Test.YtdplcdhpnmcdjaaGreatDoorFDecF
import Derived.Test.YtdplcdhpnmcdjaaGreatDoorFVal
import Derived.Laws.EntriesVeiled
namespace Go.Proofs.YtdplcdhpnmcdjaaGreatDoor
set_option maxRecDepth 100000
set_option maxHeartbeats 4000000
open Go.RowKit Go.Proofs.Tryz
attribute [local go_sem high] pR
def bnd (f:Nat) (v:Value):Value:=.func (.func f) #[v] #[]
def fg:Value:=.agg #[.int .u8 3,.int .i64 0,.string ⟨#[]⟩]
theorem j7:prog.underlying 153=some (.map 5 154):=by kernel_rfl
theorem j6:prog.underlying 5=some (.int .u8):=by kernel_rfl
def yU (v:Value):Array MapEntry:=#[{ key:=.int .u8 0,val:=bnd 127 fg,born:=0 },{ key:=.int .u8 1,val:=bnd 128 v,born:=1 },{ key:=.int .u8 2,val:=bnd 129 v,born:=2 },{ key:=.int .u8 3,val:=bnd 127 v,born:=3 },{ key:=.int .u8 4,val:=bnd 127 v,born:=4 }]
theorem CJ (_v:Value) (w:World):(Instr.mapUpdate 153 (.map (some w.heap.size)) (.int .u8 0) (.func (.func 127) #[.agg #[.int .u8 3,.int .i64 0,.string ⟨#[]⟩]] #[])).run prog (w.alloc (.map #[] 0))=.ok () (w.alloc (.map #[{ key:=.int .u8 0,val:=bnd 127 fg,born:=0 }] 1)) :=
 bU _ _ _ _ j7 j6 _ _ _ _ (by simp [MapKept.IsKey]) rfl w
theorem CK (v:Value) (w:World):(Instr.mapUpdate 153 (.map (some w.heap.size)) (.int .u8 1) (.func (.func 128) #[v] #[])).run prog (w.alloc (.map #[{ key:=.int .u8 0,val:=bnd 127 fg,born:=0 }] 1))=.ok () (w.alloc (.map #[{ key:=.int .u8 0,val:=bnd 127 fg,born:=0 },{ key:=.int .u8 1,val:=bnd 128 v,born:=1 }] 2)) :=
 bU _ _ _ _ j7 j6 _ _ _ _ (by simp [MapKept.IsKey]) rfl w
theorem CL (v:Value) (w:World):(Instr.mapUpdate 153 (.map (some w.heap.size)) (.int .u8 2) (.func (.func 129) #[v] #[])).run prog (w.alloc (.map #[{ key:=.int .u8 0,val:=bnd 127 fg,born:=0 },{ key:=.int .u8 1,val:=bnd 128 v,born:=1 }] 2))=.ok () (w.alloc (.map #[{ key:=.int .u8 0,val:=bnd 127 fg,born:=0 },{ key:=.int .u8 1,val:=bnd 128 v,born:=1 },{ key:=.int .u8 2,val:=bnd 129 v,born:=2 }] 3)) :=
 bU _ _ _ _ j7 j6 _ _ _ _ (by simp [MapKept.IsKey]) rfl w
theorem CM (v:Value) (w:World):(Instr.mapUpdate 153 (.map (some w.heap.size)) (.int .u8 3) (.func (.func 127) #[v] #[])).run prog (w.alloc (.map #[{ key:=.int .u8 0,val:=bnd 127 fg,born:=0 },{ key:=.int .u8 1,val:=bnd 128 v,born:=1 },{ key:=.int .u8 2,val:=bnd 129 v,born:=2 }] 3))=.ok () (w.alloc (.map #[{ key:=.int .u8 0,val:=bnd 127 fg,born:=0 },{ key:=.int .u8 1,val:=bnd 128 v,born:=1 },{ key:=.int .u8 2,val:=bnd 129 v,born:=2 },{ key:=.int .u8 3,val:=bnd 127 v,born:=3 }] 4)) :=
 bU _ _ _ _ j7 j6 _ _ _ _ (by simp [MapKept.IsKey]) rfl w
theorem CN (v:Value) (w:World):(Instr.mapUpdate 153 (.map (some w.heap.size)) (.int .u8 4) (.func (.func 127) #[v] #[])).run prog (w.alloc (.map #[{ key:=.int .u8 0,val:=bnd 127 fg,born:=0 },{ key:=.int .u8 1,val:=bnd 128 v,born:=1 },{ key:=.int .u8 2,val:=bnd 129 v,born:=2 },{ key:=.int .u8 3,val:=bnd 127 v,born:=3 }] 4))=.ok () (w.alloc (.map #[{ key:=.int .u8 0,val:=bnd 127 fg,born:=0 },{ key:=.int .u8 1,val:=bnd 128 v,born:=1 },{ key:=.int .u8 2,val:=bnd 129 v,born:=2 },{ key:=.int .u8 3,val:=bnd 127 v,born:=3 },{ key:=.int .u8 4,val:=bnd 127 v,born:=4 }] 5)) :=
 bU _ _ _ _ j7 j6 _ _ _ _ (by simp [MapKept.IsKey]) rfl w
theorem rT (k n:Int) (s:ByteArray) (w:World) :
  Calls prog 126 #[.agg #[.int .u8 k,.int .i64 n,.string s]] w fun e w'=>∃ r,e=.returned (.map (some r))∧w'.heap[r]?=some (.map (yU (.agg #[.int .u8 k,.int .i64 n,.string s])) 5)∧Below w.heap.size w w':=by
 have hmm:=@run_makeMap prog
 have t0:=CJ (.agg #[.int .u8 k,.int .i64 n,.string s])
 have t1:=CK (.agg #[.int .u8 k,.int .i64 n,.string s])
 have t2:=CL (.agg #[.int .u8 k,.int .i64 n,.string s])
 have t3:=CM (.agg #[.int .u8 k,.int .i64 n,.string s])
 have t4:=CN (.agg #[.int .u8 k,.int .i64 n,.string s])
 obtain ⟨P,hP⟩:∃ P:Ending→World→Prop,(fun (e:Ending) (w':World)=>∃ r,e=.returned (.map (some r))∧w'.heap[r]?=some (.map (yU (.agg #[.int .u8 k,.int .i64 n,.string s])) 5)∧Below w.heap.size w w')=P:=⟨_,rfl⟩
 rw [hP]
 have HPP:=keep hP
 clear hP
 have H1:=Lib.hid (((Ok.start w).alloc w.heap.size 152 [.int .u8 k,.int .i64 n,.string s] rfl).alloc (w.heap.size+1) 152 [.int .u8 3,.int .i64 0,.string ⟨#[]⟩] (by simp))
 go_enter func126,ntmps126
 go_upto_region 2 with fail
 generalize ((w.alloc (.cells #[.int .u8 k,.int .i64 n,.string s] 152)).alloc (.cells #[.int .u8 3,.int .i64 0,.string ⟨#[]⟩] 152))=W2 at H1 ⊢
 have F3:=sE H1
 go_wp2_with fail
 first
  | go_ret
  | skip
 rw [← HPP.out]
 exact ⟨_,rfl,iy _ _,(H1.out.alloc_obj _).bel⟩
theorem tN (s:ByteArray) (w:World) :
  Calls prog 129 #[.agg #[.int .u8 2,.int .i64 1,.string s]] w fun e w'=>e=.returned (.agg #[.int .u8 3,.int .i64 0,.string ⟨#[84,82,85,69]⟩])∧Below w.heap.size w w':=by
 have H1:=Lib.hid (((Ok.start w).alloc w.heap.size 152 [.int .u8 2,.int .i64 1,.string s] rfl).var (w.heap.size+1) 35 [.int .u8 3,.int .i64 0,.string ⟨#[84,82,85,69]⟩] (by simp))
 go_enter func129,ntmps129
 go_wp2_with fail
 generalize ((w.alloc (.cells #[.int .u8 2,.int .i64 1,.string s] 152)).alloc (.cells #[.int .u8 3,.int .i64 0,.string ⟨#[84,82,85,69]⟩] 35))=W2 at H1 ⊢
 have F3:=H1.out.sees
 simp only [sees,af,ah,ac,Nat.reduceAdd] at F3
 obtain ⟨⟨⟨z0,fz0⟩,c00,c01,c02,-⟩,⟨z1,c10,c11,c12,-⟩,-⟩:=F3
 exact bodyPost_ret (v:=.agg #[.int .u8 3,.int .i64 0,.string ⟨#[84,82,85,69]⟩]) (by simp [results,results129,go_sem,c00,c01,c02]) rfl ⟨rfl,H1.out.bel⟩
theorem tM (s:ByteArray) (w:World) :
  Calls prog 129 #[.agg #[.int .u8 2,.int .i64 0,.string s]] w fun e w'=>e=.returned (.agg #[.int .u8 3,.int .i64 0,.string ⟨#[70,65,76,83,69]⟩])∧Below w.heap.size w w':=by
 have H1:=Lib.hid (((Ok.start w).alloc w.heap.size 152 [.int .u8 2,.int .i64 0,.string s] rfl).var (w.heap.size+1) 35 [.int .u8 3,.int .i64 0,.string ⟨#[70,65,76,83,69]⟩] (by simp))
 go_enter func129,ntmps129
 go_wp2_with fail
 generalize ((w.alloc (.cells #[.int .u8 2,.int .i64 0,.string s] 152)).alloc (.cells #[.int .u8 3,.int .i64 0,.string ⟨#[70,65,76,83,69]⟩] 35))=W2 at H1 ⊢
 have F3:=H1.out.sees
 simp only [sees,af,ah,ac,Nat.reduceAdd] at F3
 obtain ⟨⟨⟨z0,fz0⟩,c00,c01,c02,-⟩,⟨z1,c10,c11,c12,-⟩,-⟩:=F3
 exact bodyPost_ret (v:=.agg #[.int .u8 3,.int .i64 0,.string ⟨#[70,65,76,83,69]⟩]) (by simp [results,results129,go_sem,c00,c01,c02]) rfl ⟨rfl,H1.out.bel⟩
theorem kK (dn fn:Nat) (Es:Array MapEntry) (k:Nat) (n:Int) (s:ByteArray) (bv:Value) (r0 r1:Int) (r2:ByteArray) (HD:bh (∀ w,Calls prog dn #[.agg #[.int .u8 (k:Nat),.int .i64 n,.string s]] w fun e w'=>∃ r,e=.returned (.map (some r))∧w'.heap[r]?=some (.map Es 5)∧Below w.heap.size w w'))
  (HL:bh (MapKept.IsKey (.int .u8) (.int .u8 (k:Nat))∧∃ i,Instr.findNow (.int .u8) (.int .u8 (k:Nat)) Es.toList 0=some (some (i,.func (.func fn) #[bv] #[]))))
  (HF:bh (∀ w,Calls prog fn #[bv] w fun e w'=>e=.returned (.agg #[.int .u8 r0,.int .i64 r1,.string r2])∧Below w.heap.size w w')) (hegdn:∀ args w,(callFunc dn args).run prog w=.ok (.enter dn args) w) (hegfn:∀ args w,(callFunc fn args).run prog w=.ok (.enter fn args) w) (HSZ:Hid (s.size≤4611686018427387904)) (hv:fJ k n s.data.toList=0) (w:World) :
  Calls prog 125 #[.agg #[.int .u8 (k:Nat),.int .i64 n,.string s],.func (.func dn) #[] #[]] w fun e w'=>e=.returned (.agg #[.int .u8 r0,.int .i64 r1,.string r2])∧Below w.heap.size w w':=by
 have HVE:=keep hv
 clear hv
 have H1:=Lib.hid (((Ok.start w).alloc w.heap.size 35 [.int .u8 (k:Nat),.int .i64 n,.string s] rfl).var (w.heap.size+1) 35 [.int .u8 0,.int .i64 0,.string ⟨#[]⟩] (by simp))
 go_enter func125,ntmps125
 go_upto_region 1 with fail
 generalize ((w.alloc (.cells #[.int .u8 (k:Nat),.int .i64 n,.string s] 35)).alloc (.cells #[.int .u8 0,.int .i64 0,.string ⟨#[]⟩] 35))=W2 at H1 ⊢
 refine wp_region_held_drew (S:=fun W=>Ok w [ah (w.heap.size+1) 35 [.int .u8 0,.int .i64 0,.string ⟨#[]⟩],af (w.heap.size) 35 [.int .u8 (k:Nat),.int .i64 n,.string s]] W) (by kernel_rfl) H1.out.drew (fun hHeld => ?_)
 have H3:=Lib.hid H1.out.drew
 clear H1
 generalize W2.drew=W4 at hHeld H3 ⊢
 refine wt3 0 ?_
 refine wt3 1 ?_
 refine wt3 3 ?_
 refine wt3 4 ?_
 refine wal 2 fun K hK => ?_
 go_simp
 refine (HD.out _).mono ?_
 rintro e w5 ⟨r,rfl,hr,hb6⟩
 go_wp2_with fail
 have H7:=Lib.hid (H3.out.below hb6)
 clear hb6 H3
 obtain ⟨hkey,i,hfind⟩:=HL.out
 have hlk:=look_ok _ _ _ _ j7 j6 hr _ _ hkey hfind
 clear hkey hfind
 have HR:=keep hr
 clear hr
 refine hK.out _ _ (H7.out) (fun hHeld => ?_)
 clear hK K
 refine wn ?_
 refine wal 5 fun K hK => ?_
 go_simp
 go_wp2_with fail
 clear hlk HR
 refine hK.out _ _ (H7.out) (fun hHeld => ?_)
 clear hK K
 refine wn ?_
 refine wt3 6 ?_
 refine wt3 7 ?_
 refine wt3 8 ?_
 refine wt3 9 ?_
 refine wt3 10 ?_
 refine wpAnyH_done (by kernel_rfl) ?_ _
 clear hHeld
 have F8:=sE H7
 go_wp2_with fail
 refine cM (fK k n s HSZ.out _) H7 fun w9 H11=>?_
 rw [HVE.out]
 clear F8 H7
 have F12:=sE H11
 go_wp2_with fail
 refine cM (HF.out _) H11 fun w13 H15=>?_
 clear F12 H11
 have F16:=sE H15
 go_wp2_with fail
 have hfar:∀ x∈[af (w.heap.size) 35 [.int .u8 (k:Nat),.int .i64 n,.string s]],x.far (some (w.heap.size+1)):=by
  intro x hx
  rw [List.mem_singleton] at hx
  subst hx
  show some w.heap.size≠some (w.heap.size+1)
  simp
 have HE:=Lib.hid (((H15.out.set_ (i:=0) (u:=.int .u8 r0) (by omega) hfar).set_ (i:=1) (u:=.int .i64 r1) (by omega) hfar).set_ (i:=2) (u:=.string r2) (by omega) hfar)
 have F9:=HE.out.sees
 simp only [sees,ah,af,ac,Nat.reduceAdd,List.set_cons_succ,List.set_cons_zero] at F9
 obtain ⟨⟨⟨y0,g0⟩,q0,q1,q2,-⟩,-⟩:=F9
 exact bodyPost_ret (v:=.agg #[.int .u8 r0,.int .i64 r1,.string r2]) (by simp [results,results125,go_sem,q0,q1,q2]) rfl ⟨rfl,HE.out.bel⟩
theorem yS (k:Nat) (n:Int) (s R:ByteArray) (HC:bh (∀ w,Calls prog 125 #[.agg #[.int .u8 (k:Nat),.int .i64 n,.string s],.func (.func 126) #[] #[]] w fun e w'=>e=.returned (.agg #[.int .u8 3,.int .i64 0,.string R])∧Below w.heap.size w w')) (w:World) :
  Calls prog 74 #[.agg #[.int .u8 (k:Nat),.int .i64 n,.string s]] w fun e w'=>e=.returned (.agg #[.int .u8 3,.int .i64 0,.string R])∧Below w.heap.size w w':=by
 have H1:=Lib.hid (((Ok.start w).alloc w.heap.size 35 [.int .u8 (k:Nat),.int .i64 n,.string s] rfl).var (w.heap.size+1) 35 [.int .u8 0,.int .i64 0,.string ⟨#[]⟩] (by simp))
 go_enter func74,ntmps74
 go_wp2_with fail
 generalize ((w.alloc (.cells #[.int .u8 (k:Nat),.int .i64 n,.string s] 35)).alloc (.cells #[.int .u8 0,.int .i64 0,.string ⟨#[]⟩] 35))=W2 at H1 ⊢
 have F3:=sE H1
 refine cM (HC.out _) H1 fun w4 H6=>?_
 clear F3 H1
 have F7:=sE H6
 go_wp2_with fail
 have hfar:∀ x∈[af (w.heap.size) 35 [.int .u8 (k:Nat),.int .i64 n,.string s]],x.far (some (w.heap.size+1)):=by
  intro x hx
  rw [List.mem_singleton] at hx
  subst hx
  show some w.heap.size≠some (w.heap.size+1)
  simp
 have HE:=Lib.hid (((H6.out.set_ (i:=0) (u:=.int .u8 3) (by omega) hfar).set_ (i:=1) (u:=.int .i64 0) (by omega) hfar).set_ (i:=2) (u:=.string R) (by omega) hfar)
 have F9:=HE.out.sees
 simp only [sees,ah,af,ac,Nat.reduceAdd,List.set_cons_succ,List.set_cons_zero] at F9
 obtain ⟨⟨⟨y0,g0⟩,q0,q1,q2,-⟩,-⟩:=F9
 exact bodyPost_ret (v:=.agg #[.int .u8 3,.int .i64 0,.string R]) (by simp [results,results74,go_sem,q0,q1,q2]) rfl ⟨rfl,HE.out.bel⟩
theorem pW (a b:Value) (x:ByteArray) (w:World):(Instr.field 35 (.agg #[a,b,.string x]) 2).run prog w=.ok (.string x) w:=by kernel_rfl
theorem zv (k:Nat) (n:Int) (s R:ByteArray) (h4:((k:Int) == 4)=false) (HC:bh (∀ w,Calls prog 125 #[.agg #[.int .u8 (k:Nat),.int .i64 n,.string s],.func (.func 126) #[] #[]] w fun e w'=>e=.returned (.agg #[.int .u8 3,.int .i64 0,.string R])∧Below w.heap.size w w')) (HSZ:Hid (s.size≤4611686018427387904)) (hv:fJ k n s.data.toList=0) (w:World) :
  Calls prog 39 #[.agg #[.int .u8 (k:Nat),.int .i64 n,.string s]] w fun e w'=>e=.returned (.string R)∧Below w.heap.size w w':=by
 have HVE:=keep hv
 clear hv
 have hq:eq3 (k:Nat) n 4 7 s.toList []=false:=by
  cases h:eq3 (k:Nat) n 4 7 s.toList [] with
  | false=>rfl
  | true=>rw [((m5 ..).1 h).1] at h4; exact absurd h4 (by decide)
 have hft:=pW (.int .u8 3) (.int .i64 0)
 have H1:=Lib.hid ((Ok.start w).alloc w.heap.size 35 [.int .u8 (k:Nat),.int .i64 n,.string s] rfl)
 go_enter func39,ntmps39
 go_wp2_with fail
 generalize (w.alloc (.cells #[.int .u8 (k:Nat),.int .i64 n,.string s] 35))=W2 at H1 ⊢
 refine wp_region_held_drew (S:=fun W=>Ok w [af (w.heap.size) 35 [.int .u8 (k:Nat),.int .i64 n,.string s]] W) (by kernel_rfl) H1.out.drew (fun hHeld => ?_)
 refine wt3 0 ?_
 refine wal 1 fun K hK => ?_
 go_simp
 refine (fp 7 (by decide) (by decide) _).mono ?_
 rintro e w4 ⟨rfl,hb5⟩
 go_wp2_with fail
 refine hK.out _ _ (hHeld.below hb5) (fun hHeld => ?_)
 clear hK K
 refine wn ?_
 refine wt3 2 ?_
 refine wt3 3 ?_
 refine wt3 4 ?_
 refine wt3 5 ?_
 refine wt3 6 ?_
 refine wt3 7 ?_
 refine wsk 8 ?_
 refine wsk 9 ?_
 refine wsk 10 ?_
 refine wt3 11 ?_
 refine wt3 12 ?_
 refine wpAnyH_done (by kernel_rfl) ?_ _
 clear H1
 have H6:=Lib.hid hHeld
 clear hHeld
 have F7:=sE H6
 go_wp2_with fail
 refine cM (fK k n s HSZ.out _) H6 fun w8 H10=>?_
 rw [HVE.out]
 clear F7 H6
 have F11:=sE H10
 go_wp2_with fail
 refine cM (yS k n s R HC _) H10 fun w12 H14=>?_
 clear F11 H10
 have F15:=sE H14
 go_wp2_with fail
 go_ret
 exact ⟨rfl,H14.out.bel⟩
theorem yI  (hs:(⟨#[]⟩:ByteArray).size≤4611686018427387904) (hv:fJ 2 0 (⟨#[]⟩:ByteArray).data.toList=0) (w:World) :
  Calls prog 39 #[.agg #[.int .u8 2,.int .i64 0,.string ⟨#[]⟩]] w fun e w'=>e=.returned (.string ⟨#[70,65,76,83,69]⟩)∧Below w.heap.size w w' :=
 zv 2 0 ⟨#[]⟩ ⟨#[70,65,76,83,69]⟩ (by decide) (keep fun w=>kK 126 129 (yU (.agg #[.int .u8 2,.int .i64 0,.string ⟨#[]⟩])) 2 0 ⟨#[]⟩ (.agg #[.int .u8 2,.int .i64 0,.string ⟨#[]⟩]) 3 0 ⟨#[70,65,76,83,69]⟩ (keep fun w=>rT _ _ _ w) (keep ⟨by simp [MapKept.IsKey],2,rfl⟩) (keep fun w=>tM ⟨#[]⟩ w) (fun _ _=>by kernel_rfl) (fun _ _=>by kernel_rfl) (Lib.hid hs) hv w) (Lib.hid hs) hv w
theorem yJ  (hs:(⟨#[]⟩:ByteArray).size≤4611686018427387904) (hv:fJ 2 1 (⟨#[]⟩:ByteArray).data.toList=0) (w:World) :
  Calls prog 39 #[.agg #[.int .u8 2,.int .i64 1,.string ⟨#[]⟩]] w fun e w'=>e=.returned (.string ⟨#[84,82,85,69]⟩)∧Below w.heap.size w w' :=
 zv 2 1 ⟨#[]⟩ ⟨#[84,82,85,69]⟩ (by decide) (keep fun w=>kK 126 129 (yU (.agg #[.int .u8 2,.int .i64 1,.string ⟨#[]⟩])) 2 1 ⟨#[]⟩ (.agg #[.int .u8 2,.int .i64 1,.string ⟨#[]⟩]) 3 0 ⟨#[84,82,85,69]⟩ (keep fun w=>rT _ _ _ w) (keep ⟨by simp [MapKept.IsKey],2,rfl⟩) (keep fun w=>tN ⟨#[]⟩ w) (fun _ _=>by kernel_rfl) (fun _ _=>by kernel_rfl) (Lib.hid hs) hv w) (Lib.hid hs) hv w
