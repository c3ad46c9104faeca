/- val.ToText and val.Show at the values of a cell. -/
import Derived.Test.YtdplcdhpnmcdjaaGreatDoorETg
import Derived.Test.YtdplcdhpnmcdjaaGreatDoorEEqV
import Derived.Test.YtdplcdhpnmcdjaaGreatDoorEDecF
import Derived.Test.YtdplcdhpnmcdjaaGreatDoorEParP
import Derived.Laws.EntriesVeiled
namespace Go.Proofs.YtdplcdhpnmcdjaaGreatDoor
set_option maxRecDepth 100000
set_option maxHeartbeats 4000000
open Go.RowKit Go.Proofs.Tryz
attribute [local go_sem high] ju
def bnd (f:Nat) (v:Value):Value:=.func (.func f) #[v] #[]
def d7:Value:=.agg #[.int .u8 3,.int .i64 0,.string ⟨#[]⟩]
theorem dR:prog.underlying 153=some (.map 5 154):=by kernel_rfl
theorem dQ:prog.underlying 5=some (.int .u8):=by kernel_rfl
def oC (v:Value):Array MapEntry:=#[{ key:=.int .u8 0,val:=bnd 127 d7,born:=0 },{ key:=.int .u8 1,val:=bnd 128 v,born:=1 },{ key:=.int .u8 2,val:=bnd 129 v,born:=2 },{ key:=.int .u8 3,val:=bnd 127 v,born:=3 },{ key:=.int .u8 4,val:=bnd 127 v,born:=4 }]
theorem zh (_v:Value) (w:World):(Instr.mapUpdate 153 (.map (some w.heap.size)) (.int .u8 0) (.func (.func 127) #[.agg #[.int .u8 3,.int .i64 0,.string ⟨#[]⟩]] #[])).run prog (w.alloc (.map #[] 0))=.ok () (w.alloc (.map #[{ key:=.int .u8 0,val:=bnd 127 d7,born:=0 }] 1)) :=
 bb _ _ _ _ dR dQ _ _ _ _ (by simp [MapKept.IsKey]) rfl w
theorem zi (v:Value) (w:World):(Instr.mapUpdate 153 (.map (some w.heap.size)) (.int .u8 1) (.func (.func 128) #[v] #[])).run prog (w.alloc (.map #[{ key:=.int .u8 0,val:=bnd 127 d7,born:=0 }] 1))=.ok () (w.alloc (.map #[{ key:=.int .u8 0,val:=bnd 127 d7,born:=0 },{ key:=.int .u8 1,val:=bnd 128 v,born:=1 }] 2)) :=
 bb _ _ _ _ dR dQ _ _ _ _ (by simp [MapKept.IsKey]) rfl w
theorem zj (v:Value) (w:World):(Instr.mapUpdate 153 (.map (some w.heap.size)) (.int .u8 2) (.func (.func 129) #[v] #[])).run prog (w.alloc (.map #[{ key:=.int .u8 0,val:=bnd 127 d7,born:=0 },{ key:=.int .u8 1,val:=bnd 128 v,born:=1 }] 2))=.ok () (w.alloc (.map #[{ key:=.int .u8 0,val:=bnd 127 d7,born:=0 },{ key:=.int .u8 1,val:=bnd 128 v,born:=1 },{ key:=.int .u8 2,val:=bnd 129 v,born:=2 }] 3)) :=
 bb _ _ _ _ dR dQ _ _ _ _ (by simp [MapKept.IsKey]) rfl w
theorem zk (v:Value) (w:World):(Instr.mapUpdate 153 (.map (some w.heap.size)) (.int .u8 3) (.func (.func 127) #[v] #[])).run prog (w.alloc (.map #[{ key:=.int .u8 0,val:=bnd 127 d7,born:=0 },{ key:=.int .u8 1,val:=bnd 128 v,born:=1 },{ key:=.int .u8 2,val:=bnd 129 v,born:=2 }] 3))=.ok () (w.alloc (.map #[{ key:=.int .u8 0,val:=bnd 127 d7,born:=0 },{ key:=.int .u8 1,val:=bnd 128 v,born:=1 },{ key:=.int .u8 2,val:=bnd 129 v,born:=2 },{ key:=.int .u8 3,val:=bnd 127 v,born:=3 }] 4)) :=
 bb _ _ _ _ dR dQ _ _ _ _ (by simp [MapKept.IsKey]) rfl w
theorem zl (v:Value) (w:World):(Instr.mapUpdate 153 (.map (some w.heap.size)) (.int .u8 4) (.func (.func 127) #[v] #[])).run prog (w.alloc (.map #[{ key:=.int .u8 0,val:=bnd 127 d7,born:=0 },{ key:=.int .u8 1,val:=bnd 128 v,born:=1 },{ key:=.int .u8 2,val:=bnd 129 v,born:=2 },{ key:=.int .u8 3,val:=bnd 127 v,born:=3 }] 4))=.ok () (w.alloc (.map #[{ key:=.int .u8 0,val:=bnd 127 d7,born:=0 },{ key:=.int .u8 1,val:=bnd 128 v,born:=1 },{ key:=.int .u8 2,val:=bnd 129 v,born:=2 },{ key:=.int .u8 3,val:=bnd 127 v,born:=3 },{ key:=.int .u8 4,val:=bnd 127 v,born:=4 }] 5)) :=
 bb _ _ _ _ dR dQ _ _ _ _ (by simp [MapKept.IsKey]) rfl w
theorem ig (k n:Int) (s:ByteArray) (w:World) :
  Calls prog 126 #[.agg #[.int .u8 k,.int .i64 n,.string s]] w fun e w'=>∃ r,e=.returned (.map (some r))∧w'.heap[r]?=some (.map (oC (.agg #[.int .u8 k,.int .i64 n,.string s])) 5)∧Below w.heap.size w w':=by
 have hmm:=@run_makeMap prog
 have t0:=zh (.agg #[.int .u8 k,.int .i64 n,.string s])
 have t1:=zi (.agg #[.int .u8 k,.int .i64 n,.string s])
 have t2:=zj (.agg #[.int .u8 k,.int .i64 n,.string s])
 have t3:=zk (.agg #[.int .u8 k,.int .i64 n,.string s])
 have t4:=zl (.agg #[.int .u8 k,.int .i64 n,.string s])
 obtain ⟨P,hP⟩:∃ P:Ending→World→Prop,(fun (e:Ending) (w':World)=>∃ r,e=.returned (.map (some r))∧w'.heap[r]?=some (.map (oC (.agg #[.int .u8 k,.int .i64 n,.string s])) 5)∧Below w.heap.size w w')=P:=⟨_,rfl⟩
 rw [hP]
 have HPP:=keep hP
 clear hP
 have H1:=Lib.hid (((Ok.start w).alloc w.heap.size 152 [.int .u8 k,.int .i64 n,.string s] rfl).alloc (w.heap.size+1) 152 [.int .u8 3,.int .i64 0,.string ⟨#[]⟩] (by simp))
 go_enter func126,ntmps126
 go_upto_region 2 with fail
 generalize ((w.alloc (.cells #[.int .u8 k,.int .i64 n,.string s] 152)).alloc (.cells #[.int .u8 3,.int .i64 0,.string ⟨#[]⟩] 152))=W2 at H1 ⊢
 have F3:=sE H1
 go_wp2_with fail
 first
  | go_ret
  | skip
 rw [← HPP.out]
 exact ⟨_,rfl,d9 _ _,(H1.out.alloc_obj _).bel⟩
theorem m3 (k n:Int) (s:ByteArray) (w:World) :
  Calls prog 127 #[.agg #[.int .u8 k,.int .i64 n,.string s]] w fun e w'=>e=.returned (.agg #[.int .u8 k,.int .i64 n,.string s])∧Below w.heap.size w w':=by
 have H1:=Lib.hid (((Ok.start w).alloc w.heap.size 152 [.int .u8 k,.int .i64 n,.string s] rfl).var (w.heap.size+1) 35 [.int .u8 k,.int .i64 n,.string s] (by simp))
 go_enter func127,ntmps127
 go_wp2_with fail
 generalize ((w.alloc (.cells #[.int .u8 k,.int .i64 n,.string s] 152)).alloc (.cells #[.int .u8 k,.int .i64 n,.string s] 35))=W2 at H1 ⊢
 have F3:=H1.out.sees
 simp only [sees,ac,af,aa,Nat.reduceAdd] at F3
 obtain ⟨⟨⟨z0,fz0⟩,c00,c01,c02,-⟩,⟨z1,c10,c11,c12,-⟩,-⟩:=F3
 exact bodyPost_ret (v:=.agg #[.int .u8 k,.int .i64 n,.string s]) (by simp [results,results127,go_sem,c00,c01,c02]) rfl ⟨rfl,H1.out.bel⟩
theorem qM (s:ByteArray) (w:World) :
  Calls prog 129 #[.agg #[.int .u8 2,.int .i64 1,.string s]] w fun e w'=>e=.returned (.agg #[.int .u8 3,.int .i64 0,.string ⟨#[84,82,85,69]⟩])∧Below w.heap.size w w':=by
 have H1:=Lib.hid (((Ok.start w).alloc w.heap.size 152 [.int .u8 2,.int .i64 1,.string s] rfl).var (w.heap.size+1) 35 [.int .u8 3,.int .i64 0,.string ⟨#[84,82,85,69]⟩] (by simp))
 go_enter func129,ntmps129
 go_wp2_with fail
 generalize ((w.alloc (.cells #[.int .u8 2,.int .i64 1,.string s] 152)).alloc (.cells #[.int .u8 3,.int .i64 0,.string ⟨#[84,82,85,69]⟩] 35))=W2 at H1 ⊢
 have F3:=H1.out.sees
 simp only [sees,ac,af,aa,Nat.reduceAdd] at F3
 obtain ⟨⟨⟨z0,fz0⟩,c00,c01,c02,-⟩,⟨z1,c10,c11,c12,-⟩,-⟩:=F3
 exact bodyPost_ret (v:=.agg #[.int .u8 3,.int .i64 0,.string ⟨#[84,82,85,69]⟩]) (by simp [results,results129,go_sem,c00,c01,c02]) rfl ⟨rfl,H1.out.bel⟩
theorem qL (s:ByteArray) (w:World) :
  Calls prog 129 #[.agg #[.int .u8 2,.int .i64 0,.string s]] w fun e w'=>e=.returned (.agg #[.int .u8 3,.int .i64 0,.string ⟨#[70,65,76,83,69]⟩])∧Below w.heap.size w w':=by
 have H1:=Lib.hid (((Ok.start w).alloc w.heap.size 152 [.int .u8 2,.int .i64 0,.string s] rfl).var (w.heap.size+1) 35 [.int .u8 3,.int .i64 0,.string ⟨#[70,65,76,83,69]⟩] (by simp))
 go_enter func129,ntmps129
 go_wp2_with fail
 generalize ((w.alloc (.cells #[.int .u8 2,.int .i64 0,.string s] 152)).alloc (.cells #[.int .u8 3,.int .i64 0,.string ⟨#[70,65,76,83,69]⟩] 35))=W2 at H1 ⊢
 have F3:=H1.out.sees
 simp only [sees,ac,af,aa,Nat.reduceAdd] at F3
 obtain ⟨⟨⟨z0,fz0⟩,c00,c01,c02,-⟩,⟨z1,c10,c11,c12,-⟩,-⟩:=F3
 exact bodyPost_ret (v:=.agg #[.int .u8 3,.int .i64 0,.string ⟨#[70,65,76,83,69]⟩]) (by simp [results,results129,go_sem,c00,c01,c02]) rfl ⟨rfl,H1.out.bel⟩
theorem oH (n:Int) (s:ByteArray) (h1 : -9223372036854775808≤n) (h2:n≤9223372036854775807) (w:World) :
  Calls prog 128 #[.agg #[.int .u8 1,.int .i64 n,.string s]] w fun e w'=>e=.returned (.agg #[.int .u8 3,.int .i64 0,.string ⟨(cD n).toArray⟩])∧Below w.heap.size w w':=by
 have H1:=Lib.hid (((Ok.start w).alloc w.heap.size 152 [.int .u8 1,.int .i64 n,.string s] rfl).var (w.heap.size+1) 35 [.int .u8 0,.int .i64 0,.string ⟨#[]⟩] (by simp))
 go_enter func128,ntmps128
 go_wp2_with fail
 generalize ((w.alloc (.cells #[.int .u8 1,.int .i64 n,.string s] 152)).alloc (.cells #[.int .u8 0,.int .i64 0,.string ⟨#[]⟩] 35))=W2 at H1 ⊢
 have F3:=sE H1
 refine cM (jq n _ h1 h2) H1 fun w4 H6=>?_
 clear F3 H1
 have F7:=sE H6
 go_wp2_with fail
 have hfar:∀ x∈[ac (w.heap.size) 152 [.int .u8 1,.int .i64 n,.string s]],x.far (some (w.heap.size+1)):=by
  intro x hx
  rw [List.mem_singleton] at hx
  subst hx
  show some w.heap.size≠some (w.heap.size+1)
  simp
 have HE:=Lib.hid (((H6.out.set_ (i:=0) (u:=.int .u8 3) (by omega) hfar).set_ (i:=1) (u:=.int .i64 0) (by omega) hfar).set_ (i:=2) (u:=.string ⟨(cD n).toArray⟩) (by omega) hfar)
 have F9:=HE.out.sees
 simp only [sees,af,ac,aa,Nat.reduceAdd,List.set_cons_succ,List.set_cons_zero] at F9
 obtain ⟨⟨⟨y0,g0⟩,r0,r1,r2,-⟩,-⟩:=F9
 exact bodyPost_ret (v:=.agg #[.int .u8 3,.int .i64 0,.string ⟨(cD n).toArray⟩]) (by simp [results,results128,go_sem,r0,r1,r2]) rfl ⟨rfl,HE.out.bel⟩
theorem cS (dn fn:Nat) (Es:Array MapEntry) (k:Nat) (n:Int) (s:ByteArray) (bv:Value) (r0 r1:Int) (r2:ByteArray) (HD:ao (∀ w,Calls prog dn #[.agg #[.int .u8 (k:Nat),.int .i64 n,.string s]] w fun e w'=>∃ r,e=.returned (.map (some r))∧w'.heap[r]?=some (.map Es 5)∧Below w.heap.size w w'))
  (HL:ao (MapKept.IsKey (.int .u8) (.int .u8 (k:Nat))∧∃ i,Instr.findNow (.int .u8) (.int .u8 (k:Nat)) Es.toList 0=some (some (i,.func (.func fn) #[bv] #[]))))
  (HF:ao (∀ w,Calls prog fn #[bv] w fun e w'=>e=.returned (.agg #[.int .u8 r0,.int .i64 r1,.string r2])∧Below w.heap.size w w')) (hegdn:∀ args w,(callFunc dn args).run prog w=.ok (.enter dn args) w) (hegfn:∀ args w,(callFunc fn args).run prog w=.ok (.enter fn args) w) (HSZ:Hid (s.size≤4611686018427387904)) (hv:bm k n s.data.toList=0) (w:World) :
  Calls prog 125 #[.agg #[.int .u8 (k:Nat),.int .i64 n,.string s],.func (.func dn) #[] #[]] w fun e w'=>e=.returned (.agg #[.int .u8 r0,.int .i64 r1,.string r2])∧Below w.heap.size w w':=by
 have HVE:=keep hv
 clear hv
 have H1:=Lib.hid (((Ok.start w).alloc w.heap.size 35 [.int .u8 (k:Nat),.int .i64 n,.string s] rfl).var (w.heap.size+1) 35 [.int .u8 0,.int .i64 0,.string ⟨#[]⟩] (by simp))
 go_enter func125,ntmps125
 go_upto_region 1 with fail
 generalize ((w.alloc (.cells #[.int .u8 (k:Nat),.int .i64 n,.string s] 35)).alloc (.cells #[.int .u8 0,.int .i64 0,.string ⟨#[]⟩] 35))=W2 at H1 ⊢
 refine wp_region_held_drew (S:=fun W=>Ok w [af (w.heap.size+1) 35 [.int .u8 0,.int .i64 0,.string ⟨#[]⟩],ac (w.heap.size) 35 [.int .u8 (k:Nat),.int .i64 n,.string s]] W) (by kernel_rfl) H1.out.drew (fun hHeld => ?_)
 have H3:=Lib.hid H1.out.drew
 clear H1
 generalize W2.drew=W4 at hHeld H3 ⊢
 refine wt3 0 ?_
 refine wt3 1 ?_
 refine wt3 3 ?_
 refine wt3 4 ?_
 refine wal 2 fun K hK => ?_
 go_simp
 refine (HD.out _).mono ?_
 rintro e w5 ⟨r,rfl,hr,hb6⟩
 go_wp2_with fail
 have H7:=Lib.hid (H3.out.below hb6)
 clear hb6 H3
 obtain ⟨hkey,i,hfind⟩:=HL.out
 have hlk:=look_ok _ _ _ _ dR dQ hr _ _ hkey hfind
 clear hkey hfind
 have HR:=keep hr
 clear hr
 refine hK.out _ _ (H7.out) (fun hHeld => ?_)
 clear hK K
 refine wn ?_
 refine wal 5 fun K hK => ?_
 go_simp
 go_wp2_with fail
 clear hlk HR
 refine hK.out _ _ (H7.out) (fun hHeld => ?_)
 clear hK K
 refine wn ?_
 refine wt3 6 ?_
 refine wt3 7 ?_
 refine wt3 8 ?_
 refine wt3 9 ?_
 refine wt3 10 ?_
 refine wpAnyH_done (by kernel_rfl) ?_ _
 clear hHeld
 have F8:=sE H7
 go_wp2_with fail
 refine cM (aY k n s HSZ.out _) H7 fun w9 H11=>?_
 rw [HVE.out]
 clear F8 H7
 have F12:=sE H11
 go_wp2_with fail
 refine cM (HF.out _) H11 fun w13 H15=>?_
 clear F12 H11
 have F16:=sE H15
 go_wp2_with fail
 have hfar:∀ x∈[ac (w.heap.size) 35 [.int .u8 (k:Nat),.int .i64 n,.string s]],x.far (some (w.heap.size+1)):=by
  intro x hx
  rw [List.mem_singleton] at hx
  subst hx
  show some w.heap.size≠some (w.heap.size+1)
  simp
 have HE:=Lib.hid (((H15.out.set_ (i:=0) (u:=.int .u8 r0) (by omega) hfar).set_ (i:=1) (u:=.int .i64 r1) (by omega) hfar).set_ (i:=2) (u:=.string r2) (by omega) hfar)
 have F9:=HE.out.sees
 simp only [sees,af,ac,aa,Nat.reduceAdd,List.set_cons_succ,List.set_cons_zero] at F9
 obtain ⟨⟨⟨y0,g0⟩,q0,q1,q2,-⟩,-⟩:=F9
 exact bodyPost_ret (v:=.agg #[.int .u8 r0,.int .i64 r1,.string r2]) (by simp [results,results125,go_sem,q0,q1,q2]) rfl ⟨rfl,HE.out.bel⟩
theorem vr (k:Nat) (n:Int) (s R:ByteArray) (HC:ao (∀ w,Calls prog 125 #[.agg #[.int .u8 (k:Nat),.int .i64 n,.string s],.func (.func 126) #[] #[]] w fun e w'=>e=.returned (.agg #[.int .u8 3,.int .i64 0,.string R])∧Below w.heap.size w w')) (w:World) :
  Calls prog 74 #[.agg #[.int .u8 (k:Nat),.int .i64 n,.string s]] w fun e w'=>e=.returned (.agg #[.int .u8 3,.int .i64 0,.string R])∧Below w.heap.size w w':=by
 have H1:=Lib.hid (((Ok.start w).alloc w.heap.size 35 [.int .u8 (k:Nat),.int .i64 n,.string s] rfl).var (w.heap.size+1) 35 [.int .u8 0,.int .i64 0,.string ⟨#[]⟩] (by simp))
 go_enter func74,ntmps74
 go_wp2_with fail
 generalize ((w.alloc (.cells #[.int .u8 (k:Nat),.int .i64 n,.string s] 35)).alloc (.cells #[.int .u8 0,.int .i64 0,.string ⟨#[]⟩] 35))=W2 at H1 ⊢
 have F3:=sE H1
 refine cM (HC.out _) H1 fun w4 H6=>?_
 clear F3 H1
 have F7:=sE H6
 go_wp2_with fail
 have hfar:∀ x∈[ac (w.heap.size) 35 [.int .u8 (k:Nat),.int .i64 n,.string s]],x.far (some (w.heap.size+1)):=by
  intro x hx
  rw [List.mem_singleton] at hx
  subst hx
  show some w.heap.size≠some (w.heap.size+1)
  simp
 have HE:=Lib.hid (((H6.out.set_ (i:=0) (u:=.int .u8 3) (by omega) hfar).set_ (i:=1) (u:=.int .i64 0) (by omega) hfar).set_ (i:=2) (u:=.string R) (by omega) hfar)
 have F9:=HE.out.sees
 simp only [sees,af,ac,aa,Nat.reduceAdd,List.set_cons_succ,List.set_cons_zero] at F9
 obtain ⟨⟨⟨y0,g0⟩,q0,q1,q2,-⟩,-⟩:=F9
 exact bodyPost_ret (v:=.agg #[.int .u8 3,.int .i64 0,.string R]) (by simp [results,results74,go_sem,q0,q1,q2]) rfl ⟨rfl,HE.out.bel⟩
theorem nx (a b:Value) (x:ByteArray) (w:World):(Instr.field 35 (.agg #[a,b,.string x]) 2).run prog w=.ok (.string x) w:=by kernel_rfl
theorem mS (k:Nat) (n:Int) (s R:ByteArray) (h4:((k:Int) == 4)=false) (HC:ao (∀ w,Calls prog 125 #[.agg #[.int .u8 (k:Nat),.int .i64 n,.string s],.func (.func 126) #[] #[]] w fun e w'=>e=.returned (.agg #[.int .u8 3,.int .i64 0,.string R])∧Below w.heap.size w w')) (HSZ:Hid (s.size≤4611686018427387904)) (hv:bm k n s.data.toList=0) (w:World) :
  Calls prog 39 #[.agg #[.int .u8 (k:Nat),.int .i64 n,.string s]] w fun e w'=>e=.returned (.string R)∧Below w.heap.size w w':=by
 have HVE:=keep hv
 clear hv
 have hq:eq3 (k:Nat) n 4 7 s.toList []=false:=by
  cases h:eq3 (k:Nat) n 4 7 s.toList [] with
  | false=>rfl
  | true=>rw [((dW ..).1 h).1] at h4; exact absurd h4 (by decide)
 have hft:=nx (.int .u8 3) (.int .i64 0)
 have H1:=Lib.hid ((Ok.start w).alloc w.heap.size 35 [.int .u8 (k:Nat),.int .i64 n,.string s] rfl)
 go_enter func39,ntmps39
 go_wp2_with fail
 generalize (w.alloc (.cells #[.int .u8 (k:Nat),.int .i64 n,.string s] 35))=W2 at H1 ⊢
 refine wp_region_held_drew (S:=fun W=>Ok w [ac (w.heap.size) 35 [.int .u8 (k:Nat),.int .i64 n,.string s]] W) (by kernel_rfl) H1.out.drew (fun hHeld => ?_)
 refine wt3 0 ?_
 refine wal 1 fun K hK => ?_
 go_simp
 refine (aU 7 (by decide) (by decide) _).mono ?_
 rintro e w4 ⟨rfl,hb5⟩
 go_wp2_with fail
 refine hK.out _ _ (hHeld.below hb5) (fun hHeld => ?_)
 clear hK K
 refine wn ?_
 refine wt3 2 ?_
 refine wt3 3 ?_
 refine wt3 4 ?_
 refine wt3 5 ?_
 refine wt3 6 ?_
 refine wt3 7 ?_
 refine wsk 8 ?_
 refine wsk 9 ?_
 refine wsk 10 ?_
 refine wt3 11 ?_
 refine wt3 12 ?_
 refine wpAnyH_done (by kernel_rfl) ?_ _
 clear H1
 have H6:=Lib.hid hHeld
 clear hHeld
 have F7:=sE H6
 go_wp2_with fail
 refine cM (aY k n s HSZ.out _) H6 fun w8 H10=>?_
 rw [HVE.out]
 clear F7 H6
 have F11:=sE H10
 go_wp2_with fail
 refine cM (vr k n s R HC _) H10 fun w12 H14=>?_
 clear F11 H10
 have F15:=sE H14
 go_wp2_with fail
 go_ret
 exact ⟨rfl,H14.out.bel⟩
theorem xf  (hs:(⟨#[]⟩:ByteArray).size≤4611686018427387904) (hv:bm 0 0 (⟨#[]⟩:ByteArray).data.toList=0) (w:World) :
  Calls prog 39 #[.agg #[.int .u8 0,.int .i64 0,.string ⟨#[]⟩]] w fun e w'=>e=.returned (.string ⟨#[]⟩)∧Below w.heap.size w w' :=
 mS 0 0 ⟨#[]⟩ ⟨#[]⟩ (by decide) (keep fun w=>cS 126 127 (oC (.agg #[.int .u8 0,.int .i64 0,.string ⟨#[]⟩])) 0 0 ⟨#[]⟩ (.agg #[.int .u8 3,.int .i64 0,.string ⟨#[]⟩]) 3 0 ⟨#[]⟩ (keep fun w=>ig _ _ _ w) (keep ⟨by simp [MapKept.IsKey],0,rfl⟩) (keep fun w=>m3 3 0 ⟨#[]⟩ w) (fun _ _=>by kernel_rfl) (fun _ _=>by kernel_rfl) (Lib.hid hs) hv w) (Lib.hid hs) hv w
theorem xg (n:Int) (h1 : -9223372036854775808≤n) (h2:n≤9223372036854775807) (hs:(⟨#[]⟩:ByteArray).size≤4611686018427387904) (hv:bm 1 n (⟨#[]⟩:ByteArray).data.toList=0) (w:World) :
  Calls prog 39 #[.agg #[.int .u8 1,.int .i64 n,.string ⟨#[]⟩]] w fun e w'=>e=.returned (.string ⟨(cD n).toArray⟩)∧Below w.heap.size w w' :=
 mS 1 n ⟨#[]⟩ ⟨(cD n).toArray⟩ (by decide) (keep fun w=>cS 126 128 (oC (.agg #[.int .u8 1,.int .i64 n,.string ⟨#[]⟩])) 1 n ⟨#[]⟩ (.agg #[.int .u8 1,.int .i64 n,.string ⟨#[]⟩]) 3 0 ⟨(cD n).toArray⟩ (keep fun w=>ig _ _ _ w) (keep ⟨by simp [MapKept.IsKey],1,rfl⟩) (keep fun w=>oH n ⟨#[]⟩ h1 h2 w) (fun _ _=>by kernel_rfl) (fun _ _=>by kernel_rfl) (Lib.hid hs) hv w) (Lib.hid hs) hv w
theorem pn  (hs:(⟨#[]⟩:ByteArray).size≤4611686018427387904) (hv:bm 2 0 (⟨#[]⟩:ByteArray).data.toList=0) (w:World) :
  Calls prog 39 #[.agg #[.int .u8 2,.int .i64 0,.string ⟨#[]⟩]] w fun e w'=>e=.returned (.string ⟨#[70,65,76,83,69]⟩)∧Below w.heap.size w w' :=
 mS 2 0 ⟨#[]⟩ ⟨#[70,65,76,83,69]⟩ (by decide) (keep fun w=>cS 126 129 (oC (.agg #[.int .u8 2,.int .i64 0,.string ⟨#[]⟩])) 2 0 ⟨#[]⟩ (.agg #[.int .u8 2,.int .i64 0,.string ⟨#[]⟩]) 3 0 ⟨#[70,65,76,83,69]⟩ (keep fun w=>ig _ _ _ w) (keep ⟨by simp [MapKept.IsKey],2,rfl⟩) (keep fun w=>qL ⟨#[]⟩ w) (fun _ _=>by kernel_rfl) (fun _ _=>by kernel_rfl) (Lib.hid hs) hv w) (Lib.hid hs) hv w
theorem pp  (hs:(⟨#[]⟩:ByteArray).size≤4611686018427387904) (hv:bm 2 1 (⟨#[]⟩:ByteArray).data.toList=0) (w:World) :
  Calls prog 39 #[.agg #[.int .u8 2,.int .i64 1,.string ⟨#[]⟩]] w fun e w'=>e=.returned (.string ⟨#[84,82,85,69]⟩)∧Below w.heap.size w w' :=
 mS 2 1 ⟨#[]⟩ ⟨#[84,82,85,69]⟩ (by decide) (keep fun w=>cS 126 129 (oC (.agg #[.int .u8 2,.int .i64 1,.string ⟨#[]⟩])) 2 1 ⟨#[]⟩ (.agg #[.int .u8 2,.int .i64 1,.string ⟨#[]⟩]) 3 0 ⟨#[84,82,85,69]⟩ (keep fun w=>ig _ _ _ w) (keep ⟨by simp [MapKept.IsKey],2,rfl⟩) (keep fun w=>qM ⟨#[]⟩ w) (fun _ _=>by kernel_rfl) (fun _ _=>by kernel_rfl) (Lib.hid hs) hv w) (Lib.hid hs) hv w
theorem xh (s:ByteArray) (hs:(s:ByteArray).size≤4611686018427387904) (hv:bm 3 0 (s:ByteArray).data.toList=0) (w:World) :
  Calls prog 39 #[.agg #[.int .u8 3,.int .i64 0,.string s]] w fun e w'=>e=.returned (.string s)∧Below w.heap.size w w' :=
 mS 3 0 s s (by decide) (keep fun w=>cS 126 127 (oC (.agg #[.int .u8 3,.int .i64 0,.string s])) 3 0 s (.agg #[.int .u8 3,.int .i64 0,.string s]) 3 0 s (keep fun w=>ig _ _ _ w) (keep ⟨by simp [MapKept.IsKey],3,rfl⟩) (keep fun w=>m3 3 0 s w) (fun _ _=>by kernel_rfl) (fun _ _=>by kernel_rfl) (Lib.hid hs) hv w) (Lib.hid hs) hv w
def cu (k:Nat) (n:Int) (t:List UInt8):List UInt8 :=
 if k=1 then cD n else if k=2 then (if n=1 then c6 else cf) else if k=3 then t else if k=4 then aB[n.toNat]?.getD [] else []
theorem sn (k:Nat) (n:Int) (s:ByteArray) (hs:s.size≤4611686018427387904) (h1 : -9223372036854775808≤n) (h2:n≤9223372036854775807) (w:World) (hw:Words w) (hc:cellV k n s.data.toList) :
  Calls prog 39 #[.agg #[.int .u8 (k:Nat),.int .i64 n,.string s]] w fun e w'=>e=.returned (.string ⟨(cu k n s.data.toList).toArray⟩)∧Below w.heap.size w w':=by
 have hv:=aF hc
 have nil:s.data.toList=[]→s=⟨#[]⟩:=by
  intro e
  apply Classical.byContradiction
  intro h
  exact (dB h).1 e
 rcases hc with ⟨rfl,rfl,h⟩ | ⟨rfl,h,h0⟩ | ⟨rfl,h,h0⟩ | ⟨rfl,rfl,h⟩ | ⟨rfl,h,g1,g2⟩
 ·obtain rfl:=nil h
  exact xf (by decide) hv w
 ·obtain rfl:=nil h
  exact xg n h1 h2 (by decide) hv w
 ·obtain rfl:=nil h
  rcases h0 with rfl | rfl
  ·exact pn (by decide) hv w
  exact pp (by decide) hv w
 ·have:cu 3 0 s.data.toList=s.data.toList:=rfl
  rw [this]
  exact xh s hs hv w
 obtain rfl:=nil h
 exact ic n g1 (by omega) w hw
