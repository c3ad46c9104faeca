/- val.ToText and val.Show at the values of a cell. The reference's checks of a value, at any value. The parser's formula and argument. The reference's below. -/
import Derived.Test.YthdmpajkacmkdaaGreatDoorGSxp
import Derived.Test.YthdmpajkacmkdaaGreatDoorGTg
import Derived.Test.YthdmpajkacmkdaaGreatDoorGEqV
import Derived.Test.YthdmpajkacmkdaaGreatDoorGDecF
import Derived.Test.YthdmpajkacmkdaaGreatDoorGVal
import Derived.Laws.EntriesVeiled
import Derived.Test.YthdmpajkacmkdaaGreatDoorGRefG
import Derived.Test.YthdmpajkacmkdaaGreatDoorGParF
import Derived.Test.YthdmpajkacmkdaaGreatDoorGRft
namespace Go.Proofs.YthdmpajkacmkdaaGreatDoor
set_option maxRecDepth 100000
set_option maxHeartbeats 4000000
open Go.RowKit Go.Proofs.Tryz
attribute [local go_sem high] qj
def bnd (f:Nat) (v:Value):Value:=.func (.func f) #[v] #[]
def fo:Value:=.agg #[.int .u8 3,.int .i64 0,.string ⟨#[]⟩]
theorem kB:prog.underlying 129=some (.map 5 130):=by kernel_rfl
theorem kA:prog.underlying 5=some (.int .u8):=by kernel_rfl
def zt (v:Value):Array MapEntry:=#[{ key:=.int .u8 0,val:=bnd 94 fo,born:=0 },{ key:=.int .u8 1,val:=bnd 95 v,born:=1 },{ key:=.int .u8 2,val:=bnd 96 v,born:=2 },{ key:=.int .u8 3,val:=bnd 94 v,born:=3 },{ key:=.int .u8 4,val:=bnd 94 v,born:=4 }]
theorem Dc (_v:Value) (w:World):(Instr.mapUpdate 129 (.map (some w.heap.size)) (.int .u8 0) (.func (.func 94) #[.agg #[.int .u8 3,.int .i64 0,.string ⟨#[]⟩]] #[])).run prog (w.alloc (.map #[] 0))=.ok () (w.alloc (.map #[{ key:=.int .u8 0,val:=bnd 94 fo,born:=0 }] 1)) :=
 bV _ _ _ _ kB kA _ _ _ _ (by simp [MapKept.IsKey]) rfl w
theorem Dd (v:Value) (w:World):(Instr.mapUpdate 129 (.map (some w.heap.size)) (.int .u8 1) (.func (.func 95) #[v] #[])).run prog (w.alloc (.map #[{ key:=.int .u8 0,val:=bnd 94 fo,born:=0 }] 1))=.ok () (w.alloc (.map #[{ key:=.int .u8 0,val:=bnd 94 fo,born:=0 },{ key:=.int .u8 1,val:=bnd 95 v,born:=1 }] 2)) :=
 bV _ _ _ _ kB kA _ _ _ _ (by simp [MapKept.IsKey]) rfl w
theorem De (v:Value) (w:World):(Instr.mapUpdate 129 (.map (some w.heap.size)) (.int .u8 2) (.func (.func 96) #[v] #[])).run prog (w.alloc (.map #[{ key:=.int .u8 0,val:=bnd 94 fo,born:=0 },{ key:=.int .u8 1,val:=bnd 95 v,born:=1 }] 2))=.ok () (w.alloc (.map #[{ key:=.int .u8 0,val:=bnd 94 fo,born:=0 },{ key:=.int .u8 1,val:=bnd 95 v,born:=1 },{ key:=.int .u8 2,val:=bnd 96 v,born:=2 }] 3)) :=
 bV _ _ _ _ kB kA _ _ _ _ (by simp [MapKept.IsKey]) rfl w
theorem Df (v:Value) (w:World):(Instr.mapUpdate 129 (.map (some w.heap.size)) (.int .u8 3) (.func (.func 94) #[v] #[])).run prog (w.alloc (.map #[{ key:=.int .u8 0,val:=bnd 94 fo,born:=0 },{ key:=.int .u8 1,val:=bnd 95 v,born:=1 },{ key:=.int .u8 2,val:=bnd 96 v,born:=2 }] 3))=.ok () (w.alloc (.map #[{ key:=.int .u8 0,val:=bnd 94 fo,born:=0 },{ key:=.int .u8 1,val:=bnd 95 v,born:=1 },{ key:=.int .u8 2,val:=bnd 96 v,born:=2 },{ key:=.int .u8 3,val:=bnd 94 v,born:=3 }] 4)) :=
 bV _ _ _ _ kB kA _ _ _ _ (by simp [MapKept.IsKey]) rfl w
theorem Dg (v:Value) (w:World):(Instr.mapUpdate 129 (.map (some w.heap.size)) (.int .u8 4) (.func (.func 94) #[v] #[])).run prog (w.alloc (.map #[{ key:=.int .u8 0,val:=bnd 94 fo,born:=0 },{ key:=.int .u8 1,val:=bnd 95 v,born:=1 },{ key:=.int .u8 2,val:=bnd 96 v,born:=2 },{ key:=.int .u8 3,val:=bnd 94 v,born:=3 }] 4))=.ok () (w.alloc (.map #[{ key:=.int .u8 0,val:=bnd 94 fo,born:=0 },{ key:=.int .u8 1,val:=bnd 95 v,born:=1 },{ key:=.int .u8 2,val:=bnd 96 v,born:=2 },{ key:=.int .u8 3,val:=bnd 94 v,born:=3 },{ key:=.int .u8 4,val:=bnd 94 v,born:=4 }] 5)) :=
 bV _ _ _ _ kB kA _ _ _ _ (by simp [MapKept.IsKey]) rfl w
theorem su (k n:Int) (s:ByteArray) (w:World) :
  Calls prog 93 #[.agg #[.int .u8 k,.int .i64 n,.string s]] w fun e w'=>∃ r,e=.returned (.map (some r))∧w'.heap[r]?=some (.map (zt (.agg #[.int .u8 k,.int .i64 n,.string s])) 5)∧Below w.heap.size w w':=by
 have hmm:=@run_makeMap prog
 have t0:=Dc (.agg #[.int .u8 k,.int .i64 n,.string s])
 have t1:=Dd (.agg #[.int .u8 k,.int .i64 n,.string s])
 have t2:=De (.agg #[.int .u8 k,.int .i64 n,.string s])
 have t3:=Df (.agg #[.int .u8 k,.int .i64 n,.string s])
 have t4:=Dg (.agg #[.int .u8 k,.int .i64 n,.string s])
 obtain ⟨P,hP⟩:∃ P:Ending→World→Prop,(fun (e:Ending) (w':World)=>∃ r,e=.returned (.map (some r))∧w'.heap[r]?=some (.map (zt (.agg #[.int .u8 k,.int .i64 n,.string s])) 5)∧Below w.heap.size w w')=P:=⟨_,rfl⟩
 rw [hP]
 have HPP:=keep hP
 clear hP
 have H1:=Lib.hid (((Ok.start w).alloc w.heap.size 128 [.int .u8 k,.int .i64 n,.string s] rfl).alloc (w.heap.size+1) 128 [.int .u8 3,.int .i64 0,.string ⟨#[]⟩] (by simp))
 go_enter func93,ntmps93
 go_upto_region 2 with fail
 generalize ((w.alloc (.cells #[.int .u8 k,.int .i64 n,.string s] 128)).alloc (.cells #[.int .u8 3,.int .i64 0,.string ⟨#[]⟩] 128))=W2 at H1 ⊢
 have F3:=sE H1
 go_wp2_with fail
 first
  | go_ret
  | skip
 rw [← HPP.out]
 exact ⟨_,rfl,iN _ _,(H1.out.alloc_obj _).bel⟩
theorem ui (s:ByteArray) (w:World) :
  Calls prog 96 #[.agg #[.int .u8 2,.int .i64 1,.string s]] w fun e w'=>e=.returned (.agg #[.int .u8 3,.int .i64 0,.string ⟨#[84,82,85,69]⟩])∧Below w.heap.size w w':=by
 have H1:=Lib.hid (((Ok.start w).alloc w.heap.size 128 [.int .u8 2,.int .i64 1,.string s] rfl).var (w.heap.size+1) 23 [.int .u8 3,.int .i64 0,.string ⟨#[84,82,85,69]⟩] (by simp))
 go_enter func96,ntmps96
 go_wp2_with fail
 generalize ((w.alloc (.cells #[.int .u8 2,.int .i64 1,.string s] 128)).alloc (.cells #[.int .u8 3,.int .i64 0,.string ⟨#[84,82,85,69]⟩] 23))=W2 at H1 ⊢
 have F3:=H1.out.sees
 simp only [sees,af,ah,ac,Nat.reduceAdd] at F3
 obtain ⟨⟨⟨z0,fz0⟩,c00,c01,c02,-⟩,⟨z1,c10,c11,c12,-⟩,-⟩:=F3
 exact bodyPost_ret (v:=.agg #[.int .u8 3,.int .i64 0,.string ⟨#[84,82,85,69]⟩]) (by simp [results,results96,go_sem,c00,c01,c02]) rfl ⟨rfl,H1.out.bel⟩
theorem uh (s:ByteArray) (w:World) :
  Calls prog 96 #[.agg #[.int .u8 2,.int .i64 0,.string s]] w fun e w'=>e=.returned (.agg #[.int .u8 3,.int .i64 0,.string ⟨#[70,65,76,83,69]⟩])∧Below w.heap.size w w':=by
 have H1:=Lib.hid (((Ok.start w).alloc w.heap.size 128 [.int .u8 2,.int .i64 0,.string s] rfl).var (w.heap.size+1) 23 [.int .u8 3,.int .i64 0,.string ⟨#[70,65,76,83,69]⟩] (by simp))
 go_enter func96,ntmps96
 go_wp2_with fail
 generalize ((w.alloc (.cells #[.int .u8 2,.int .i64 0,.string s] 128)).alloc (.cells #[.int .u8 3,.int .i64 0,.string ⟨#[70,65,76,83,69]⟩] 23))=W2 at H1 ⊢
 have F3:=H1.out.sees
 simp only [sees,af,ah,ac,Nat.reduceAdd] at F3
 obtain ⟨⟨⟨z0,fz0⟩,c00,c01,c02,-⟩,⟨z1,c10,c11,c12,-⟩,-⟩:=F3
 exact bodyPost_ret (v:=.agg #[.int .u8 3,.int .i64 0,.string ⟨#[70,65,76,83,69]⟩]) (by simp [results,results96,go_sem,c00,c01,c02]) rfl ⟨rfl,H1.out.bel⟩
theorem lj (dn fn:Nat) (Es:Array MapEntry) (k:Nat) (n:Int) (s:ByteArray) (bv:Value) (r0 r1:Int) (r2:ByteArray) (HD:bh (∀ w,Calls prog dn #[.agg #[.int .u8 (k:Nat),.int .i64 n,.string s]] w fun e w'=>∃ r,e=.returned (.map (some r))∧w'.heap[r]?=some (.map Es 5)∧Below w.heap.size w w'))
  (HL:bh (MapKept.IsKey (.int .u8) (.int .u8 (k:Nat))∧∃ i,Instr.findNow (.int .u8) (.int .u8 (k:Nat)) Es.toList 0=some (some (i,.func (.func fn) #[bv] #[]))))
  (HF:bh (∀ w,Calls prog fn #[bv] w fun e w'=>e=.returned (.agg #[.int .u8 r0,.int .i64 r1,.string r2])∧Below w.heap.size w w')) (hegdn:∀ args w,(callFunc dn args).run prog w=.ok (.enter dn args) w) (hegfn:∀ args w,(callFunc fn args).run prog w=.ok (.enter fn args) w) (HSZ:Hid (s.size≤4611686018427387904)) (hv:fS k n s.data.toList=0) (w:World) :
  Calls prog 92 #[.agg #[.int .u8 (k:Nat),.int .i64 n,.string s],.func (.func dn) #[] #[]] w fun e w'=>e=.returned (.agg #[.int .u8 r0,.int .i64 r1,.string r2])∧Below w.heap.size w w':=by
 have HVE:=keep hv
 clear hv
 have H1:=Lib.hid (((Ok.start w).alloc w.heap.size 23 [.int .u8 (k:Nat),.int .i64 n,.string s] rfl).var (w.heap.size+1) 23 [.int .u8 0,.int .i64 0,.string ⟨#[]⟩] (by simp))
 go_enter func92,ntmps92
 go_upto_region 1 with fail
 generalize ((w.alloc (.cells #[.int .u8 (k:Nat),.int .i64 n,.string s] 23)).alloc (.cells #[.int .u8 0,.int .i64 0,.string ⟨#[]⟩] 23))=W2 at H1 ⊢
 refine wp_region_held_drew (S:=fun W=>Ok w [ah (w.heap.size+1) 23 [.int .u8 0,.int .i64 0,.string ⟨#[]⟩],af (w.heap.size) 23 [.int .u8 (k:Nat),.int .i64 n,.string s]] W) (by kernel_rfl) H1.out.drew (fun hHeld => ?_)
 have H3:=Lib.hid H1.out.drew
 clear H1
 generalize W2.drew=W4 at hHeld H3 ⊢
 refine wt3 0 ?_
 refine wt3 1 ?_
 refine wt3 3 ?_
 refine wt3 4 ?_
 refine wal 2 fun K hK => ?_
 go_simp
 refine (HD.out _).mono ?_
 rintro e w5 ⟨r,rfl,hr,hb6⟩
 go_wp2_with fail
 have H7:=Lib.hid (H3.out.below hb6)
 clear hb6 H3
 obtain ⟨hkey,i,hfind⟩:=HL.out
 have hlk:=look_ok _ _ _ _ kB kA hr _ _ hkey hfind
 clear hkey hfind
 have HR:=keep hr
 clear hr
 refine hK.out _ _ (H7.out) (fun hHeld => ?_)
 clear hK K
 refine wn ?_
 refine wal 5 fun K hK => ?_
 go_simp
 go_wp2_with fail
 clear hlk HR
 refine hK.out _ _ (H7.out) (fun hHeld => ?_)
 clear hK K
 refine wn ?_
 refine wt3 6 ?_
 refine wt3 7 ?_
 refine wt3 8 ?_
 refine wt3 9 ?_
 refine wt3 10 ?_
 refine wpAnyH_done (by kernel_rfl) ?_ _
 clear hHeld
 have F8:=sE H7
 go_wp2_with fail
 refine cM (fT k n s HSZ.out _) H7 fun w9 H11=>?_
 rw [HVE.out]
 clear F8 H7
 have F12:=sE H11
 go_wp2_with fail
 refine cM (HF.out _) H11 fun w13 H15=>?_
 clear F12 H11
 have F16:=sE H15
 go_wp2_with fail
 have hfar:∀ x∈[af (w.heap.size) 23 [.int .u8 (k:Nat),.int .i64 n,.string s]],x.far (some (w.heap.size+1)):=by
  intro x hx
  rw [List.mem_singleton] at hx
  subst hx
  show some w.heap.size≠some (w.heap.size+1)
  simp
 have HE:=Lib.hid (((H15.out.set_ (i:=0) (u:=.int .u8 r0) (by omega) hfar).set_ (i:=1) (u:=.int .i64 r1) (by omega) hfar).set_ (i:=2) (u:=.string r2) (by omega) hfar)
 have F9:=HE.out.sees
 simp only [sees,ah,af,ac,Nat.reduceAdd,List.set_cons_succ,List.set_cons_zero] at F9
 obtain ⟨⟨⟨y0,g0⟩,q0,q1,q2,-⟩,-⟩:=F9
 exact bodyPost_ret (v:=.agg #[.int .u8 r0,.int .i64 r1,.string r2]) (by simp [results,results92,go_sem,q0,q1,q2]) rfl ⟨rfl,HE.out.bel⟩
theorem zq (k:Nat) (n:Int) (s R:ByteArray) (HC:bh (∀ w,Calls prog 92 #[.agg #[.int .u8 (k:Nat),.int .i64 n,.string s],.func (.func 93) #[] #[]] w fun e w'=>e=.returned (.agg #[.int .u8 3,.int .i64 0,.string R])∧Below w.heap.size w w')) (w:World) :
  Calls prog 59 #[.agg #[.int .u8 (k:Nat),.int .i64 n,.string s]] w fun e w'=>e=.returned (.agg #[.int .u8 3,.int .i64 0,.string R])∧Below w.heap.size w w':=by
 have H1:=Lib.hid (((Ok.start w).alloc w.heap.size 23 [.int .u8 (k:Nat),.int .i64 n,.string s] rfl).var (w.heap.size+1) 23 [.int .u8 0,.int .i64 0,.string ⟨#[]⟩] (by simp))
 go_enter func59,ntmps59
 go_wp2_with fail
 generalize ((w.alloc (.cells #[.int .u8 (k:Nat),.int .i64 n,.string s] 23)).alloc (.cells #[.int .u8 0,.int .i64 0,.string ⟨#[]⟩] 23))=W2 at H1 ⊢
 have F3:=sE H1
 refine cM (HC.out _) H1 fun w4 H6=>?_
 clear F3 H1
 have F7:=sE H6
 go_wp2_with fail
 have hfar:∀ x∈[af (w.heap.size) 23 [.int .u8 (k:Nat),.int .i64 n,.string s]],x.far (some (w.heap.size+1)):=by
  intro x hx
  rw [List.mem_singleton] at hx
  subst hx
  show some w.heap.size≠some (w.heap.size+1)
  simp
 have HE:=Lib.hid (((H6.out.set_ (i:=0) (u:=.int .u8 3) (by omega) hfar).set_ (i:=1) (u:=.int .i64 0) (by omega) hfar).set_ (i:=2) (u:=.string R) (by omega) hfar)
 have F9:=HE.out.sees
 simp only [sees,ah,af,ac,Nat.reduceAdd,List.set_cons_succ,List.set_cons_zero] at F9
 obtain ⟨⟨⟨y0,g0⟩,q0,q1,q2,-⟩,-⟩:=F9
 exact bodyPost_ret (v:=.agg #[.int .u8 3,.int .i64 0,.string R]) (by simp [results,results59,go_sem,q0,q1,q2]) rfl ⟨rfl,HE.out.bel⟩
theorem qo (a b:Value) (x:ByteArray) (w:World):(Instr.field 23 (.agg #[a,b,.string x]) 2).run prog w=.ok (.string x) w:=by kernel_rfl
theorem zZ (k:Nat) (n:Int) (s R:ByteArray) (h4:((k:Int) == 4)=false) (HC:bh (∀ w,Calls prog 92 #[.agg #[.int .u8 (k:Nat),.int .i64 n,.string s],.func (.func 93) #[] #[]] w fun e w'=>e=.returned (.agg #[.int .u8 3,.int .i64 0,.string R])∧Below w.heap.size w w')) (HSZ:Hid (s.size≤4611686018427387904)) (hv:fS k n s.data.toList=0) (w:World) :
  Calls prog 29 #[.agg #[.int .u8 (k:Nat),.int .i64 n,.string s]] w fun e w'=>e=.returned (.string R)∧Below w.heap.size w w':=by
 have HVE:=keep hv
 clear hv
 have hq:eq3 (k:Nat) n 4 7 s.toList []=false:=by
  cases h:eq3 (k:Nat) n 4 7 s.toList [] with
  | false=>rfl
  | true=>rw [((nG ..).1 h).1] at h4; exact absurd h4 (by decide)
 have hft:=qo (.int .u8 3) (.int .i64 0)
 have H1:=Lib.hid ((Ok.start w).alloc w.heap.size 23 [.int .u8 (k:Nat),.int .i64 n,.string s] rfl)
 go_enter func29,ntmps29
 go_wp2_with fail
 generalize (w.alloc (.cells #[.int .u8 (k:Nat),.int .i64 n,.string s] 23))=W2 at H1 ⊢
 refine wp_region_held_drew (S:=fun W=>Ok w [af (w.heap.size) 23 [.int .u8 (k:Nat),.int .i64 n,.string s]] W) (by kernel_rfl) H1.out.drew (fun hHeld => ?_)
 refine wt3 0 ?_
 refine wal 1 fun K hK => ?_
 go_simp
 refine (fA 7 (by decide) (by decide) _).mono ?_
 rintro e w4 ⟨rfl,hb5⟩
 go_wp2_with fail
 refine hK.out _ _ (hHeld.below hb5) (fun hHeld => ?_)
 clear hK K
 refine wn ?_
 refine wt3 2 ?_
 refine wt3 3 ?_
 refine wt3 4 ?_
 refine wt3 5 ?_
 refine wt3 6 ?_
 refine wt3 7 ?_
 refine wsk 8 ?_
 refine wsk 9 ?_
 refine wsk 10 ?_
 refine wt3 11 ?_
 refine wt3 12 ?_
 refine wpAnyH_done (by kernel_rfl) ?_ _
 clear H1
 have H6:=Lib.hid hHeld
 clear hHeld
 have F7:=sE H6
 go_wp2_with fail
 refine cM (fT k n s HSZ.out _) H6 fun w8 H10=>?_
 rw [HVE.out]
 clear F7 H6
 have F11:=sE H10
 go_wp2_with fail
 refine cM (zq k n s R HC _) H10 fun w12 H14=>?_
 clear F11 H10
 have F15:=sE H14
 go_wp2_with fail
 go_ret
 exact ⟨rfl,H14.out.bel⟩
theorem ze  (hs:(⟨#[]⟩:ByteArray).size≤4611686018427387904) (hv:fS 2 0 (⟨#[]⟩:ByteArray).data.toList=0) (w:World) :
  Calls prog 29 #[.agg #[.int .u8 2,.int .i64 0,.string ⟨#[]⟩]] w fun e w'=>e=.returned (.string ⟨#[70,65,76,83,69]⟩)∧Below w.heap.size w w' :=
 zZ 2 0 ⟨#[]⟩ ⟨#[70,65,76,83,69]⟩ (by decide) (keep fun w=>lj 93 96 (zt (.agg #[.int .u8 2,.int .i64 0,.string ⟨#[]⟩])) 2 0 ⟨#[]⟩ (.agg #[.int .u8 2,.int .i64 0,.string ⟨#[]⟩]) 3 0 ⟨#[70,65,76,83,69]⟩ (keep fun w=>su _ _ _ w) (keep ⟨by simp [MapKept.IsKey],2,rfl⟩) (keep fun w=>uh ⟨#[]⟩ w) (fun _ _=>by kernel_rfl) (fun _ _=>by kernel_rfl) (Lib.hid hs) hv w) (Lib.hid hs) hv w
theorem zf  (hs:(⟨#[]⟩:ByteArray).size≤4611686018427387904) (hv:fS 2 1 (⟨#[]⟩:ByteArray).data.toList=0) (w:World) :
  Calls prog 29 #[.agg #[.int .u8 2,.int .i64 1,.string ⟨#[]⟩]] w fun e w'=>e=.returned (.string ⟨#[84,82,85,69]⟩)∧Below w.heap.size w w' :=
 zZ 2 1 ⟨#[]⟩ ⟨#[84,82,85,69]⟩ (by decide) (keep fun w=>lj 93 96 (zt (.agg #[.int .u8 2,.int .i64 1,.string ⟨#[]⟩])) 2 1 ⟨#[]⟩ (.agg #[.int .u8 2,.int .i64 1,.string ⟨#[]⟩]) 3 0 ⟨#[84,82,85,69]⟩ (keep fun w=>su _ _ _ w) (keep ⟨by simp [MapKept.IsKey],2,rfl⟩) (keep fun w=>ui ⟨#[]⟩ w) (fun _ _=>by kernel_rfl) (fun _ _=>by kernel_rfl) (Lib.hid hs) hv w) (Lib.hid hs) hv w
set_option maxRecDepth 100000
set_option maxHeartbeats 4000000
theorem wV  (w:World) :
  Calls prog 60 #[.agg #[.int .u8 0,.int .i64 0,.string ⟨#[]⟩]] w fun e w'=>e=.returned (.int .i64 0)∧Below w.heap.size w w':=by
 have H1:=Lib.hid ((Ok.start w).alloc w.heap.size 23 [.int .u8 0,.int .i64 0,.string ⟨#[]⟩] rfl)
 go_enter func60,ntmps60
 go_wp2_with fail
 generalize (w.alloc (.cells #[.int .u8 0,.int .i64 0,.string ⟨#[]⟩] 23))=W2 at H1 ⊢
 go_ret
 exact ⟨rfl,H1.out.bel⟩
theorem wU (s:ByteArray) (hs:s.toList.isEmpty=false) (w:World) :
  Calls prog 60 #[.agg #[.int .u8 0,.int .i64 0,.string s]] w fun e w'=>e=.returned (.int .i64 2)∧Below w.heap.size w w':=by
 have H1:=Lib.hid ((Ok.start w).alloc w.heap.size 23 [.int .u8 0,.int .i64 0,.string s] rfl)
 go_enter func60,ntmps60
 go_wp2_with fail
 generalize (w.alloc (.cells #[.int .u8 0,.int .i64 0,.string s] 23))=W2 at H1 ⊢
 go_ret
 exact ⟨rfl,H1.out.bel⟩
theorem wT (n:Int) (s:ByteArray) (hn:(n == 0)=false) (w:World) :
  Calls prog 60 #[.agg #[.int .u8 0,.int .i64 n,.string s]] w fun e w'=>e=.returned (.int .i64 2)∧Below w.heap.size w w':=by
 have H1:=Lib.hid ((Ok.start w).alloc w.heap.size 23 [.int .u8 0,.int .i64 n,.string s] rfl)
 go_enter func60,ntmps60
 go_wp2_with fail
 generalize (w.alloc (.cells #[.int .u8 0,.int .i64 n,.string s] 23))=W2 at H1 ⊢
 go_ret
 exact ⟨rfl,H1.out.bel⟩
theorem wY (n:Int) (hn : -9223372036854775807≤n) (w:World) :
  Calls prog 60 #[.agg #[.int .u8 1,.int .i64 n,.string ⟨#[]⟩]] w fun e w'=>e=.returned (.int .i64 0)∧Below w.heap.size w w':=by
 have H1:=Lib.hid ((Ok.start w).alloc w.heap.size 23 [.int .u8 1,.int .i64 n,.string ⟨#[]⟩] rfl)
 go_enter func60,ntmps60
 go_wp2_with fail
 generalize (w.alloc (.cells #[.int .u8 1,.int .i64 n,.string ⟨#[]⟩] 23))=W2 at H1 ⊢
 go_ret
 exact ⟨rfl,H1.out.bel⟩
theorem wX (n:Int) (s:ByteArray) (hn : -9223372036854775807≤n) (hs:s.toList.isEmpty=false) (w:World) :
  Calls prog 60 #[.agg #[.int .u8 1,.int .i64 n,.string s]] w fun e w'=>e=.returned (.int .i64 2)∧Below w.heap.size w w':=by
 have H1:=Lib.hid ((Ok.start w).alloc w.heap.size 23 [.int .u8 1,.int .i64 n,.string s] rfl)
 go_enter func60,ntmps60
 go_wp2_with fail
 generalize (w.alloc (.cells #[.int .u8 1,.int .i64 n,.string s] 23))=W2 at H1 ⊢
 go_ret
 exact ⟨rfl,H1.out.bel⟩
theorem wW (n:Int) (s:ByteArray) (hn:decide (-9223372036854775807≤n)=false) (w:World) :
  Calls prog 60 #[.agg #[.int .u8 1,.int .i64 n,.string s]] w fun e w'=>e=.returned (.int .i64 2)∧Below w.heap.size w w':=by
 have H1:=Lib.hid ((Ok.start w).alloc w.heap.size 23 [.int .u8 1,.int .i64 n,.string s] rfl)
 go_enter func60,ntmps60
 go_wp2_with fail
 generalize (w.alloc (.cells #[.int .u8 1,.int .i64 n,.string s] 23))=W2 at H1 ⊢
 go_ret
 exact ⟨rfl,H1.out.bel⟩
theorem uE  (w:World) :
  Calls prog 60 #[.agg #[.int .u8 2,.int .i64 0,.string ⟨#[]⟩]] w fun e w'=>e=.returned (.int .i64 0)∧Below w.heap.size w w':=by
 have H1:=Lib.hid ((Ok.start w).alloc w.heap.size 23 [.int .u8 2,.int .i64 0,.string ⟨#[]⟩] rfl)
 go_enter func60,ntmps60
 go_wp2_with fail
 generalize (w.alloc (.cells #[.int .u8 2,.int .i64 0,.string ⟨#[]⟩] 23))=W2 at H1 ⊢
 go_ret
 exact ⟨rfl,H1.out.bel⟩
theorem uC (s:ByteArray) (hs:s.toList.isEmpty=false) (w:World) :
  Calls prog 60 #[.agg #[.int .u8 2,.int .i64 0,.string s]] w fun e w'=>e=.returned (.int .i64 2)∧Below w.heap.size w w':=by
 have H1:=Lib.hid ((Ok.start w).alloc w.heap.size 23 [.int .u8 2,.int .i64 0,.string s] rfl)
 go_enter func60,ntmps60
 go_wp2_with fail
 generalize (w.alloc (.cells #[.int .u8 2,.int .i64 0,.string s] 23))=W2 at H1 ⊢
 go_ret
 exact ⟨rfl,H1.out.bel⟩
theorem uF  (w:World) :
  Calls prog 60 #[.agg #[.int .u8 2,.int .i64 1,.string ⟨#[]⟩]] w fun e w'=>e=.returned (.int .i64 0)∧Below w.heap.size w w':=by
 have H1:=Lib.hid ((Ok.start w).alloc w.heap.size 23 [.int .u8 2,.int .i64 1,.string ⟨#[]⟩] rfl)
 go_enter func60,ntmps60
 go_wp2_with fail
 generalize (w.alloc (.cells #[.int .u8 2,.int .i64 1,.string ⟨#[]⟩] 23))=W2 at H1 ⊢
 go_ret
 exact ⟨rfl,H1.out.bel⟩
theorem uD (s:ByteArray) (hs:s.toList.isEmpty=false) (w:World) :
  Calls prog 60 #[.agg #[.int .u8 2,.int .i64 1,.string s]] w fun e w'=>e=.returned (.int .i64 2)∧Below w.heap.size w w':=by
 have H1:=Lib.hid ((Ok.start w).alloc w.heap.size 23 [.int .u8 2,.int .i64 1,.string s] rfl)
 go_enter func60,ntmps60
 go_wp2_with fail
 generalize (w.alloc (.cells #[.int .u8 2,.int .i64 1,.string s] 23))=W2 at H1 ⊢
 go_ret
 exact ⟨rfl,H1.out.bel⟩
theorem wZ (n:Int) (s:ByteArray) (hn:(n == 0)=false) (hm:(n == 1)=false) (w:World) :
  Calls prog 60 #[.agg #[.int .u8 2,.int .i64 n,.string s]] w fun e w'=>e=.returned (.int .i64 2)∧Below w.heap.size w w':=by
 have H1:=Lib.hid ((Ok.start w).alloc w.heap.size 23 [.int .u8 2,.int .i64 n,.string s] rfl)
 go_enter func60,ntmps60
 go_wp2_with fail
 generalize (w.alloc (.cells #[.int .u8 2,.int .i64 n,.string s] 23))=W2 at H1 ⊢
 go_ret
 exact ⟨rfl,H1.out.bel⟩
theorem xc (s:ByteArray) (hs:s.size≤4611686018427387904) (hc:bm s.data.toList=0) (w:World) :
  Calls prog 60 #[.agg #[.int .u8 3,.int .i64 0,.string s]] w fun e w'=>e=.returned (.int .i64 0)∧Below w.heap.size w w':=by
 have HC:=keep hc
 clear hc
 have H1:=Lib.hid ((Ok.start w).alloc w.heap.size 23 [.int .u8 3,.int .i64 0,.string s] rfl)
 go_enter func60,ntmps60
 go_wp2_with fail
 generalize (w.alloc (.cells #[.int .u8 3,.int .i64 0,.string s] 23))=W2 at H1 ⊢
 refine (f9 _ _ hs).mono ?_
 rintro e w3 ⟨rfl,rfl⟩
 rw [HC.out]
 go_wp2_with fail
 go_ret
 exact ⟨rfl,H1.out.bel⟩
theorem xb (s:ByteArray) (c:Int) (hs:s.size≤4611686018427387904) (hc:bm s.data.toList=c) (h0:(c == 0)=false) (w:World) :
  Calls prog 60 #[.agg #[.int .u8 3,.int .i64 0,.string s]] w fun e w'=>e=.returned (.int .i64 2)∧Below w.heap.size w w':=by
 have HC:=keep hc
 clear hc
 have H1:=Lib.hid ((Ok.start w).alloc w.heap.size 23 [.int .u8 3,.int .i64 0,.string s] rfl)
 go_enter func60,ntmps60
 go_wp2_with fail
 generalize (w.alloc (.cells #[.int .u8 3,.int .i64 0,.string s] 23))=W2 at H1 ⊢
 refine (f9 _ _ hs).mono ?_
 rintro e w3 ⟨rfl,rfl⟩
 rw [HC.out]
 go_wp2_with fail
 go_ret
 exact ⟨rfl,H1.out.bel⟩
theorem xa (n:Int) (s:ByteArray) (hn:(n == 0)=false) (w:World) :
  Calls prog 60 #[.agg #[.int .u8 3,.int .i64 n,.string s]] w fun e w'=>e=.returned (.int .i64 2)∧Below w.heap.size w w':=by
 have H1:=Lib.hid ((Ok.start w).alloc w.heap.size 23 [.int .u8 3,.int .i64 n,.string s] rfl)
 go_enter func60,ntmps60
 go_wp2_with fail
 generalize (w.alloc (.cells #[.int .u8 3,.int .i64 n,.string s] 23))=W2 at H1 ⊢
 go_ret
 exact ⟨rfl,H1.out.bel⟩
theorem xf (n:Int) (h1:1≤n) (h6:n≤6) (w:World) :
  Calls prog 60 #[.agg #[.int .u8 4,.int .i64 n,.string ⟨#[]⟩]] w fun e w'=>e=.returned (.int .i64 0)∧Below w.heap.size w w':=by
 have H1:=Lib.hid ((Ok.start w).alloc w.heap.size 23 [.int .u8 4,.int .i64 n,.string ⟨#[]⟩] rfl)
 go_enter func60,ntmps60
 go_wp2_with fail
 generalize (w.alloc (.cells #[.int .u8 4,.int .i64 n,.string ⟨#[]⟩] 23))=W2 at H1 ⊢
 go_ret
 exact ⟨rfl,H1.out.bel⟩
theorem xe (n:Int) (s:ByteArray) (h1:1≤n) (h6:n≤6) (hs:s.toList.isEmpty=false) (w:World) :
  Calls prog 60 #[.agg #[.int .u8 4,.int .i64 n,.string s]] w fun e w'=>e=.returned (.int .i64 2)∧Below w.heap.size w w':=by
 have H1:=Lib.hid ((Ok.start w).alloc w.heap.size 23 [.int .u8 4,.int .i64 n,.string s] rfl)
 go_enter func60,ntmps60
 go_wp2_with fail
 generalize (w.alloc (.cells #[.int .u8 4,.int .i64 n,.string s] 23))=W2 at H1 ⊢
 go_ret
 exact ⟨rfl,H1.out.bel⟩
theorem xd (n:Int) (s:ByteArray) (h1:decide (1≤n)=false) (w:World) :
  Calls prog 60 #[.agg #[.int .u8 4,.int .i64 n,.string s]] w fun e w'=>e=.returned (.int .i64 2)∧Below w.heap.size w w':=by
 have H1:=Lib.hid ((Ok.start w).alloc w.heap.size 23 [.int .u8 4,.int .i64 n,.string s] rfl)
 go_enter func60,ntmps60
 go_wp2_with fail
 generalize (w.alloc (.cells #[.int .u8 4,.int .i64 n,.string s] 23))=W2 at H1 ⊢
 go_ret
 exact ⟨rfl,H1.out.bel⟩
theorem uG (n:Int) (s:ByteArray) (h1:1≤n) (h6:decide (n≤6)=false) (w:World) :
  Calls prog 60 #[.agg #[.int .u8 4,.int .i64 n,.string s]] w fun e w'=>e=.returned (.int .i64 2)∧Below w.heap.size w w':=by
 have H1:=Lib.hid ((Ok.start w).alloc w.heap.size 23 [.int .u8 4,.int .i64 n,.string s] rfl)
 go_enter func60,ntmps60
 go_wp2_with fail
 generalize (w.alloc (.cells #[.int .u8 4,.int .i64 n,.string s] 23))=W2 at H1 ⊢
 go_ret
 exact ⟨rfl,H1.out.bel⟩
theorem Ai (k n:Int) (s:ByteArray) (h0:(k == 0)=false) (h1:(k == 1)=false) (h2:(k == 2)=false) (h3:(k == 3)=false) (h4:(k == 4)=false) (w:World) :
  Calls prog 60 #[.agg #[.int .u8 k,.int .i64 n,.string s]] w fun e w'=>e=.returned (.int .i64 2)∧Below w.heap.size w w':=by
 have H1:=Lib.hid ((Ok.start w).alloc w.heap.size 23 [.int .u8 k,.int .i64 n,.string s] rfl)
 go_enter func60,ntmps60
 go_wp2_with fail
 generalize (w.alloc (.cells #[.int .u8 k,.int .i64 n,.string s] 23))=W2 at H1 ⊢
 go_ret
 exact ⟨rfl,H1.out.bel⟩
theorem eG (s:ByteArray):s=⟨#[]⟩∨(s.toList.isEmpty=false∧s.data.toList≠[]):=by
 by_cases h:s=⟨#[]⟩
 ·exact .inl h
 obtain ⟨h1,h2⟩:=gm h
 exact .inr ⟨h2,h1⟩
theorem gY (k:Nat) (n:Int) (s:ByteArray) (hs:s.size≤4611686018427387904) (hlo : -9223372036854775808≤n) (w:World) :
  Calls prog 60 #[.agg #[.int .u8 (k:Nat),.int .i64 n,.string s]] w fun e w'=>e=.returned (.int .i64 (fS k n s.data.toList))∧Below w.heap.size w w':=by
 have ne:∀ {a b:Int},a≠b→(a == b)=false:=fun h=>beq_eq_false_iff_ne.2 h
 have nn:(⟨#[]⟩:ByteArray).data.toList=[]:=rfl
 by_cases k0:k=0
 ·subst k0
  by_cases hn:n=0
  ·subst hn
   rcases eG s with rfl | ⟨g1,g2⟩
   ·rw [bA (.inl ⟨rfl,rfl,nn⟩)]; exact wV w
   rw [bg (by rintro (⟨-,-,h⟩ | ⟨h,-⟩ | ⟨h,-⟩ | ⟨h,-⟩ | ⟨h,-⟩) <;> first | exact g2 h | cases h)]; exact wU s g1 w
  rw [bg (by rintro (⟨-,h,-⟩ | ⟨h,-⟩ | ⟨h,-⟩ | ⟨h,-⟩ | ⟨h,-⟩) <;> first | exact hn h | cases h)]; exact wT n s (ne hn) w
 by_cases k1:k=1
 ·subst k1
  by_cases hn:n=-9223372036854775808
  ·rw [bg (by rintro (⟨h,-⟩ | ⟨-,-,h⟩ | ⟨h,-⟩ | ⟨h,-⟩ | ⟨h,-⟩) <;> first | exact h hn | cases h)]; exact wW n s (by simp; omega) w
  rcases eG s with rfl | ⟨g1,g2⟩
  ·rw [bA (.inr (.inl ⟨rfl,nn,hn⟩))]; exact wY n (by omega) w
  rw [bg (by rintro (⟨h,-⟩ | ⟨-,h,-⟩ | ⟨h,-⟩ | ⟨h,-⟩ | ⟨h,-⟩) <;> first | exact g2 h | cases h)]; exact wX n s (by omega) g1 w
 by_cases k2:k=2
 ·subst k2
  by_cases hn:n=0
  ·subst hn
   rcases eG s with rfl | ⟨g1,g2⟩
   ·rw [bA (.inr (.inr (.inl ⟨rfl,nn,.inl rfl⟩)))]; exact uE w
   rw [bg (by rintro (⟨h,-⟩ | ⟨h,-⟩ | ⟨-,h,-⟩ | ⟨h,-⟩ | ⟨h,-⟩) <;> first | exact g2 h | cases h)]; exact uC s g1 w
  by_cases hm:n=1
  ·subst hm
   rcases eG s with rfl | ⟨g1,g2⟩
   ·rw [bA (.inr (.inr (.inl ⟨rfl,nn,.inr rfl⟩)))]; exact uF w
   rw [bg (by rintro (⟨h,-⟩ | ⟨h,-⟩ | ⟨-,h,-⟩ | ⟨h,-⟩ | ⟨h,-⟩) <;> first | exact g2 h | cases h)]; exact uD s g1 w
  rw [bg (by rintro (⟨h,-⟩ | ⟨h,-⟩ | ⟨-,-,h⟩ | ⟨h,-⟩ | ⟨h,-⟩) <;> first | omega | cases h)]; exact wZ n s (ne hn) (ne hm) w
 by_cases k3:k=3
 ·subst k3
  by_cases hn:n=0
  ·subst hn
   by_cases hc:bm s.data.toList=0
   ·rw [bA (.inr (.inr (.inr (.inl ⟨rfl,rfl,hc⟩))))]; exact xc s hs hc w
   rw [bg (by rintro (⟨h,-⟩ | ⟨h,-⟩ | ⟨h,-⟩ | ⟨-,-,h⟩ | ⟨h,-⟩) <;> first | exact hc h | cases h)]; exact xb s _ hs rfl (ne hc) w
  rw [bg (by rintro (⟨h,-⟩ | ⟨h,-⟩ | ⟨h,-⟩ | ⟨-,h,-⟩ | ⟨h,-⟩) <;> first | exact hn h | cases h)]; exact xa n s (ne hn) w
 by_cases k4:k=4
 ·subst k4
  by_cases h1:1≤n
  ·by_cases h6:n≤6
   ·rcases eG s with rfl | ⟨g1,g2⟩
    ·rw [bA (.inr (.inr (.inr (.inr ⟨rfl,nn,h1,h6⟩))))]; exact xf n h1 h6 w
    rw [bg (by rintro (⟨h,-⟩ | ⟨h,-⟩ | ⟨h,-⟩ | ⟨h,-⟩ | ⟨-,h,-⟩) <;> first | exact g2 h | cases h)]; exact xe n s h1 h6 g1 w
   rw [bg (by rintro (⟨h,-⟩ | ⟨h,-⟩ | ⟨h,-⟩ | ⟨h,-⟩ | ⟨-,-,-,h⟩) <;> first | exact h6 h | cases h)]; exact uG n s h1 (by simp; omega) w
  rw [bg (by rintro (⟨h,-⟩ | ⟨h,-⟩ | ⟨h,-⟩ | ⟨h,-⟩ | ⟨-,-,h,-⟩) <;> first | exact h1 h | cases h)]; exact xd n s (by simp; omega) w
 rw [bg (by rintro (⟨h,-⟩ | ⟨h,-⟩ | ⟨h,-⟩ | ⟨h,-⟩ | ⟨h,-⟩) <;> omega)]
 exact Ai k n s (ne (by omega)) (ne (by omega)) (ne (by omega)) (ne (by omega)) (ne (by omega)) w
set_option maxRecDepth 100000
set_option maxHeartbeats 2000000
theorem nA {f:Nat} (h:∀ g,g≤f→Con g) {k:Nat} (h1:1≤k) (h4:k≤4) {w1:World} {ps:List aZ} {pb en:Nat} {ts:List Tk} {r:Rs} {ns:List Nd} {w:World} (hr:aj en f (.lv k) ts=some r) (hn:ns.length+ts.length≤1000) (hs:St w1 ps pb en ts ns w) :
  Calls prog 72 #[.pointer (some ⟨pb,0,none⟩),.int .i64 (k:Nat)] w (gD w1 ps pb en (dj ns r)) :=
 h f (Nat.le_refl _) w1 ps pb en (.lv k) ts r ns w hr hn hs h1 h4
theorem fJ (w1:World) (ps:List aZ) (pb en:Nat) (r:Rs) (w:World) (h:Calls prog 72 #[.pointer (some ⟨pb,0,none⟩),.int .i64 ((1:Nat):Int)] w (gD w1 ps pb en r)) :
  Calls prog 36 #[.pointer (some ⟨pb,0,none⟩)] w (gD w1 ps pb en r):=by
 have HC:=keep h
 clear h
 go_enter func36,ntmps36
 go_wp2_with fail
 refine HC.out.mono ?_
 intro e w' hp
 cases r with
 | bad a c =>
  obtain ⟨rfl,hz⟩:=hp
  have HZ:=Lib.hid hz
  clear hz
  go_wp2_with fail
  exact ⟨rfl,rfl,HZ.out⟩
 | ok ts ns n =>
  obtain ⟨rfl,hz⟩:=hp
  have HZ:=Lib.hid hz
  clear hz
  go_wp2_with fail
  first
   | go_end0
   | refine bodyPost_ret (results_none rfl _ _ _) rfl ?_
  exact ⟨rfl,HZ.out⟩
def p9 (e f fn i:Nat) (ts:List Tk):Option Rs:=if (hdS e ts).kind≠6 then aj e f (.lv 1) ts else if b8 fn i then some (.ok (ts.drop 1) [aM (hdS e ts).r] 0) else some (.bad (hdS e ts).at_ 4)
theorem BA {fn i:Nat} (h:b8 fn i=true):sD fn i=0:=by
 unfold b8 at h
 split at h
 ·cases h
 rename_i hn
 exact if_neg hn
theorem lX (f fn i:Nat) (IH:∀ g,g≤f→Con g) (hf1:1≤fn) (hf2:fn≤50) (w1:World) (ps:List aZ) (pb en:Nat) (ts:List Tk) (r:Rs) (ns:List Nd) (w:World) (hr:p9 en f fn i ts=some r) (hn:ns.length+ts.length≤1000) (h:St w1 ps pb en ts ns w) :
  Calls prog 185 #[.pointer (some ⟨pb,0,none⟩),.int .u8 (fn:Nat),.int .i64 (i:Nat)] w (gD w1 ps pb en (dj ns r)):=by
 unfold p9 at hr
 have H:=Lib.hid h
 clear h
 by_cases h6:(hdS en ts).kind=6
 ·rw [if_neg (by simpa using h6)] at hr
  cases ts with
  | nil=>exact absurd h6 (by simp [hdS])
  | cons t ts =>
   obtain ⟨tk,tn,tt,⟨t1,t2,t3,t4⟩,ta⟩:=t
   have hk6:tk=6:=h6
   subst hk6
   clear h6
   simp only [hdS,List.drop_succ_cons,List.drop_zero] at hr
   simp only [List.length_cons] at hn
   cases hw:b8 fn i
   ·rw [if_neg (by rw [hw]; decide)] at hr
    simp only [Option.some.injEq] at hr
    subst hr
    have HWI:=keep hw
    clear hw
    go_enter func185,ntmps185
    go_wp2_with fail
    refine cMg (bo w1 _ pb en _ ns _ H.out) (fun _=>H.out.below) fun wa1 H3=>?_
    clear H
    simp only [hdS,tkA]
    go_upto_region 1 with fail
    have H4:=Lib.hid (H3.out.alloc 66 [.int .u8 ((6:Nat):Int),.int .i64 tn,.string ⟨tt.toArray⟩,.int .i64 t1,.int .i64 t2,.int .i64 t3,.int .i64 t4,.int .i64 ta])
    clear H3
    have H4a:Hid (St w1 (af wa1.heap.size 66 [.int .u8 ((6:Nat):Int),.int .i64 tn,.string ⟨tt.toArray⟩,.int .i64 t1,.int .i64 t2,.int .i64 t3,.int .i64 t4,.int .i64 ta]::ps) pb en (⟨6,tn,tt,⟨t1,t2,t3,t4⟩,ta⟩::ts) ns (wa1.alloc (.cells #[.int .u8 ((6:Nat):Int),.int .i64 tn,.string ⟨tt.toArray⟩,.int .i64 t1,.int .i64 t2,.int .i64 t3,.int .i64 t4,.int .i64 ta] 66))):=H4
    clear H4
    generalize (wa1.alloc (.cells #[.int .u8 ((6:Nat):Int),.int .i64 tn,.string ⟨tt.toArray⟩,.int .i64 t1,.int .i64 t2,.int .i64 t3,.int .i64 t4,.int .i64 ta] 66))=Wa5 at H4a ⊢
    have F6:=H4a.out.sees
    simp only [sees,af,ac,Nat.reduceAdd] at F6
    obtain ⟨zp,⟨z0,c00,c01,c02,c03,c04,c05,c06,c07,-⟩,-⟩:=F6
    go_wp2_with fail
    refine (kx fn i _ hf1 hf2).mono ?_
    rintro e wa7 ⟨rfl,hw8⟩
    obtain rfl:Wa5=wa7:=hw8.symm
    rw [HWI.out]
    go_wp2_with fail
    refine (eO w1 pb _ _ _ H4a.out.bel).mono ?_
    rintro e wz ⟨rfl,hb⟩
    have HZ:=Lib.hid hb
    clear hb
    go_wp2_with fail
    exact ⟨rfl,rfl,HZ.out⟩
   rw [if_pos hw] at hr
   simp only [Option.some.injEq] at hr
   subst hr
   have HWE:=keep (BA hw)
   have HWI:=keep hw
   clear hw
   go_enter func185,ntmps185
   go_wp2_with fail
   refine cMg (bo w1 _ pb en _ ns _ H.out) (fun _=>H.out.below) fun wa1 H3=>?_
   clear H
   simp only [hdS,tkA]
   go_upto_region 1 with fail
   have H4:=Lib.hid (H3.out.alloc 66 [.int .u8 ((6:Nat):Int),.int .i64 tn,.string ⟨tt.toArray⟩,.int .i64 t1,.int .i64 t2,.int .i64 t3,.int .i64 t4,.int .i64 ta])
   clear H3
   have H4a:Hid (St w1 (af wa1.heap.size 66 [.int .u8 ((6:Nat):Int),.int .i64 tn,.string ⟨tt.toArray⟩,.int .i64 t1,.int .i64 t2,.int .i64 t3,.int .i64 t4,.int .i64 ta]::ps) pb en (⟨6,tn,tt,⟨t1,t2,t3,t4⟩,ta⟩::ts) ns (wa1.alloc (.cells #[.int .u8 ((6:Nat):Int),.int .i64 tn,.string ⟨tt.toArray⟩,.int .i64 t1,.int .i64 t2,.int .i64 t3,.int .i64 t4,.int .i64 ta] 66))):=H4
   clear H4
   generalize (wa1.alloc (.cells #[.int .u8 ((6:Nat):Int),.int .i64 tn,.string ⟨tt.toArray⟩,.int .i64 t1,.int .i64 t2,.int .i64 t3,.int .i64 t4,.int .i64 ta] 66))=Wa5 at H4a ⊢
   have F6:=H4a.out.sees
   simp only [sees,af,ac,Nat.reduceAdd] at F6
   obtain ⟨zp,⟨z0,c00,c01,c02,c03,c04,c05,c06,c07,-⟩,-⟩:=F6
   go_wp2_with fail
   refine (kx fn i _ hf1 hf2).mono ?_
   rintro e wa7 ⟨rfl,hw8⟩
   obtain rfl:Wa5=wa7:=hw8.symm
   rw [HWI.out,HWE.out]
   go_wp2_with fail
   refine (bT w1 _ pb en _ ts _ _ H4a.out).mono ?_
   rintro e wa9 ⟨rfl,hd9⟩
   clear zp z0 c00 c01 c02 c03 c04 c05 c06 c07
   have H10:=Lib.hid hd9
   clear hd9 H4a
   have F11:=H10.out.sees
   simp only [sees,af,ac,Nat.reduceAdd] at F11
   obtain ⟨zp,⟨z0,c00,c01,c02,c03,c04,c05,c06,c07,-⟩,-⟩:=F11
   go_wp2_with fail
   refine (gV w1 _ pb en ts _ (aM ⟨t1,t2,t3,t4⟩) _ (by omega) H10.out).mono ?_
   rintro e wa12 ⟨rfl,hd9⟩
   clear zp z0 c00 c01 c02 c03 c04 c05 c06 c07
   have H13:=Lib.hid hd9
   clear hd9 H10
   have F14:=H13.out.sees
   simp only [sees,af,ac,Nat.reduceAdd] at F14
   obtain ⟨zp,⟨z0,c00,c01,c02,c03,c04,c05,c06,c07,-⟩,-⟩:=F14
   go_wp2_with fail
   first
    | go_end0
    | refine bodyPost_ret (results_none rfl _ _ _) rfl ?_
   exact ⟨rfl,H13.out.tail⟩
 rw [if_pos (by simpa using h6)] at hr
 have HC:=keep (fun ps w hs=>fJ w1 ps pb en _ w (nA IH (k:=1) (Nat.le_refl _) (by omega) (w1:=w1) (ps:=ps) (pb:=pb) (w:=w) hr hn hs))
 clear IH
 have HH:=keep (fun wv h=>bo w1 ps pb en ts ns wv h)
 obtain ⟨⟨tk,tn,tt,⟨t1,t2,t3,t4⟩,ta⟩,ht⟩:∃ t,hdS en ts=t:=⟨_,rfl⟩
 rw [ht] at HH h6
 have h6b:((tk:Int) != 6)=true:=by simp only [] at h6; simp; omega
 clear ht h6
 go_enter func185,ntmps185
 go_wp2_with fail
 refine cMg (HH.out _ H.out) (fun _=>H.out.below) fun wa1 H3=>?_
 clear H
 clear HH
 simp only [tkA]
 go_upto_region 1 with fail
 have H4:=Lib.hid (H3.out.alloc 66 [.int .u8 tk,.int .i64 tn,.string ⟨tt.toArray⟩,.int .i64 t1,.int .i64 t2,.int .i64 t3,.int .i64 t4,.int .i64 ta])
 clear H3
 have H4a:Hid (St w1 (af wa1.heap.size 66 [.int .u8 tk,.int .i64 tn,.string ⟨tt.toArray⟩,.int .i64 t1,.int .i64 t2,.int .i64 t3,.int .i64 t4,.int .i64 ta]::ps) pb en ts ns (wa1.alloc (.cells #[.int .u8 tk,.int .i64 tn,.string ⟨tt.toArray⟩,.int .i64 t1,.int .i64 t2,.int .i64 t3,.int .i64 t4,.int .i64 ta] 66))):=H4
 clear H4
 generalize (wa1.alloc (.cells #[.int .u8 tk,.int .i64 tn,.string ⟨tt.toArray⟩,.int .i64 t1,.int .i64 t2,.int .i64 t3,.int .i64 t4,.int .i64 ta] 66))=Wa5 at H4a ⊢
 have F6:=H4a.out.sees
 simp only [sees,af,ac,Nat.reduceAdd] at F6
 obtain ⟨zp,⟨z0,c00,c01,c02,c03,c04,c05,c06,c07,-⟩,-⟩:=F6
 go_wp2_with fail
 clear hr
 refine (HC.out _ _ H4a.out).mono ?_
 intro e w9 hp
 clear HC
 cases r with
 | bad a c =>
  obtain ⟨rfl,hz⟩:=hp
  have HZ:=Lib.hid hz
  clear hz
  go_wp2_with fail
  exact ⟨rfl,rfl,HZ.out⟩
 | ok ts9 ns9 n9 =>
  obtain ⟨rfl,hz⟩:=hp
  have HZ:=Lib.hid hz
  clear hz
  go_wp2_with fail
  first
   | go_end0
   | refine bodyPost_ret (results_none rfl _ _ _) rfl ?_
  exact ⟨rfl,HZ.out.tail⟩
set_option maxRecDepth 100000
theorem eR (n:Nd) (w:World) :
  Calls prog 51 #[ndA n] w fun e w'=>e=.returned (.int .i64 (am n:Nat))∧Below w.heap.size w w':=by
 have hc:=kF n
 obtain ⟨nk,vk,vn,vt,⟨r1,r2,r3,r4⟩,op,fn,nn⟩:=n
 obtain ⟨k,hk⟩:=ex (am ⟨nk,vk,vn,vt,⟨r1,r2,r3,r4⟩,op,fn,nn⟩)
 rw [hk] at hc ⊢
 clear hk
 simp only [] at hc
 unfold ndA bj
 simp only []
 have H1:=Lib.hid ((Ok.start w).alloc w.heap.size 27 [.int .u8 nk,.int .u8 vk,.int .i64 vn,.string ⟨vt.toArray⟩,.int .i64 r1,.int .i64 r2,.int .i64 r3,.int .i64 r4,.int .i64 op,.int .u8 fn,.int .i64 nn] rfl)
 rcases hc with ⟨rfl,rfl⟩ | ⟨rfl,rfl⟩ | ⟨rfl,rfl⟩ | ⟨rfl,rfl⟩ | ⟨a4,a5,a6,a7,rfl⟩
 ·go_enter func51,ntmps51
  go_wp2_with fail
  go_ret
  exact ⟨rfl,H1.out.bel⟩
 ·go_enter func51,ntmps51
  go_wp2_with fail
  go_ret
  exact ⟨rfl,H1.out.bel⟩
 ·go_enter func51,ntmps51
  go_wp2_with fail
  go_ret
  exact ⟨rfl,H1.out.bel⟩
 ·go_enter func51,ntmps51
  go_wp2_with fail
  go_ret
  exact ⟨rfl,H1.out.bel⟩
 have b4:((nk:Int) == 4)=false:=by simp; omega
 have b5:((nk:Int) == 5)=false:=by simp; omega
 have b6:((nk:Int) == 6)=false:=by simp; omega
 have b7:((nk:Int) == 7)=false:=by simp; omega
 clear a4 a5 a6 a7
 go_enter func51,ntmps51
 go_wp2_with fail
 go_ret
 exact ⟨rfl,H1.out.bel⟩
