/- The reference's below. val.Truth, val.ToBool at a text, val.Make. -/
import Derived.Test.YtdplcdhpnmcdjaaGreatDoorKGiv
import Derived.Test.YtdplcdhpnmcdjaaGreatDoorKTg
import Derived.Test.YtdplcdhpnmcdjaaGreatDoorKLexC
namespace Go.Proofs.YtdplcdhpnmcdjaaGreatDoor
set_option maxRecDepth 100000
open Go.RowKit Go.Proofs.Tryz
theorem z6 (n:Nd) (w:World) :
  Calls prog 59 #[ndA n] w fun e w'=>e=.returned (.int .i64 (aw n:Nat))∧Below w.heap.size w w':=by
 have hc:=lX n
 obtain ⟨nk,vk,vn,vt,⟨r1,r2,r3,r4⟩,op,fn,nn⟩:=n
 obtain ⟨k,hk⟩:=ex (aw ⟨nk,vk,vn,vt,⟨r1,r2,r3,r4⟩,op,fn,nn⟩)
 rw [hk] at hc ⊢
 clear hk
 simp only [] at hc
 unfold ndA du
 simp only []
 have H1:=Lib.hid ((Ok.start w).alloc w.heap.size 39 [.int .u8 nk,.int .u8 vk,.int .i64 vn,.string ⟨vt.toArray⟩,.int .i64 r1,.int .i64 r2,.int .i64 r3,.int .i64 r4,.int .i64 op,.int .u8 fn,.int .i64 nn] rfl)
 rcases hc with ⟨rfl,rfl⟩ | ⟨rfl,rfl⟩ | ⟨rfl,rfl⟩ | ⟨rfl,rfl⟩ | ⟨a4,a5,a6,a7,rfl⟩
 ·go_enter func59,ntmps59
  go_wp2_with fail
  go_ret
  exact ⟨rfl,H1.out.bel⟩
 ·go_enter func59,ntmps59
  go_wp2_with fail
  go_ret
  exact ⟨rfl,H1.out.bel⟩
 ·go_enter func59,ntmps59
  go_wp2_with fail
  go_ret
  exact ⟨rfl,H1.out.bel⟩
 ·go_enter func59,ntmps59
  go_wp2_with fail
  go_ret
  exact ⟨rfl,H1.out.bel⟩
 have b4:((nk:Int) == 4)=false:=by simp; omega
 have b5:((nk:Int) == 5)=false:=by simp; omega
 have b6:((nk:Int) == 6)=false:=by simp; omega
 have b7:((nk:Int) == 7)=false:=by simp; omega
 clear a4 a5 a6 a7
 go_enter func59,ntmps59
 go_wp2_with fail
 go_ret
 exact ⟨rfl,H1.out.bel⟩
set_option maxRecDepth 100000
set_option maxHeartbeats 4000000
theorem oG  (w:World) :
  Calls prog 206 #[.bool true] w fun e w'=>e=.returned (.agg #[.int .u8 2,.int .i64 1,.string ⟨#[]⟩])∧Below w.heap.size w w':=by
 have H1:=Lib.hid ((Ok.start w).var w.heap.size 35 [.int .u8 2,.int .i64 1,.string ⟨#[]⟩] rfl)
 go_enter func206,ntmps206
 go_wp2_with fail
 generalize (w.alloc (.cells #[.int .u8 2,.int .i64 1,.string ⟨#[]⟩] 35))=W2 at H1 ⊢
 have F3:=H1.out.sees
 simp only [sees,af,aa,Nat.reduceAdd] at F3
 obtain ⟨⟨⟨z0,fz0⟩,c00,c01,c02,-⟩,-⟩:=F3
 exact bodyPost_ret (v:=.agg #[.int .u8 2,.int .i64 1,.string ⟨#[]⟩]) (by simp [results,results206,go_sem,c00,c01,c02]) rfl ⟨rfl,H1.out.bel⟩
theorem oF  (w:World) :
  Calls prog 206 #[.bool false] w fun e w'=>e=.returned (.agg #[.int .u8 2,.int .i64 0,.string ⟨#[]⟩])∧Below w.heap.size w w':=by
 have H1:=Lib.hid ((Ok.start w).var w.heap.size 35 [.int .u8 2,.int .i64 0,.string ⟨#[]⟩] rfl)
 go_enter func206,ntmps206
 go_wp2_with fail
 generalize (w.alloc (.cells #[.int .u8 2,.int .i64 0,.string ⟨#[]⟩] 35))=W2 at H1 ⊢
 have F3:=H1.out.sees
 simp only [sees,af,aa,Nat.reduceAdd] at F3
 obtain ⟨⟨⟨z0,fz0⟩,c00,c01,c02,-⟩,-⟩:=F3
 exact bodyPost_ret (v:=.agg #[.int .u8 2,.int .i64 0,.string ⟨#[]⟩]) (by simp [results,results206,go_sem,c00,c01,c02]) rfl ⟨rfl,H1.out.bel⟩
theorem kU (n:Int) (h:(n == -9223372036854775808)=false) (w:World) :
  Calls prog 124 #[.int .i64 n] w fun e w'=>e=.returned (.agg #[.int .u8 1,.int .i64 n,.string ⟨#[]⟩])∧Below w.heap.size w w':=by
 have H1:=Lib.hid ((Ok.start w).var w.heap.size 35 [.int .u8 1,.int .i64 n,.string ⟨#[]⟩] rfl)
 go_enter func124,ntmps124
 go_wp2_with fail
 generalize (w.alloc (.cells #[.int .u8 1,.int .i64 n,.string ⟨#[]⟩] 35))=W2 at H1 ⊢
 have F3:=H1.out.sees
 simp only [sees,af,aa,Nat.reduceAdd] at F3
 obtain ⟨⟨⟨z0,fz0⟩,c00,c01,c02,-⟩,-⟩:=F3
 exact bodyPost_ret (v:=.agg #[.int .u8 1,.int .i64 n,.string ⟨#[]⟩]) (by simp [results,results124,go_sem,c00,c01,c02]) rfl ⟨rfl,H1.out.bel⟩
theorem uW (s X:ByteArray) (HUP:ao (∀ w,Calls prog 164 #[.string s] w fun e w'=>e=.returned (.string X)∧Below w.heap.size w w')) (hX:X=⟨#[84,82,85,69]⟩) (w:World) :
  Calls prog 178 #[.agg #[.int .u8 3,.int .i64 0,.string s]] w fun e w'=>e=.returned (.agg #[.int .u8 2,.int .i64 1,.string ⟨#[]⟩])∧Below w.heap.size w w':=by
 subst hX
 have H1:=Lib.hid (((Ok.start w).alloc w.heap.size 152 [.int .u8 3,.int .i64 0,.string s] rfl).var (w.heap.size+1) 35 [.int .u8 0,.int .i64 0,.string ⟨#[]⟩] (by simp))
 go_enter func178,ntmps178
 go_wp2_with fail
 generalize ((w.alloc (.cells #[.int .u8 3,.int .i64 0,.string s] 152)).alloc (.cells #[.int .u8 0,.int .i64 0,.string ⟨#[]⟩] 35))=W2 at H1 ⊢
 have F3:=sE H1
 refine cM (HUP.out _) H1 fun w4 H6=>?_
 clear F3 H1
 have F7:=sE H6
 go_wp2_with fail
 refine cM (oG _) H6 fun w8 H10=>?_
 clear F7 H6
 have F11:=sE H10
 go_wp2_with fail
 have hfar:∀ x∈[ac (w.heap.size) 152 [.int .u8 3,.int .i64 0,.string s]],x.far (some (w.heap.size+1)):=by
  intro x hx
  rw [List.mem_singleton] at hx
  subst hx
  show some w.heap.size≠some (w.heap.size+1)
  simp
 have HE:=Lib.hid (((H10.out.set_ (i:=0) (u:=.int .u8 2) (by omega) hfar).set_ (i:=1) (u:=.int .i64 1) (by omega) hfar).set_ (i:=2) (u:=.string ⟨#[]⟩) (by omega) hfar)
 have F9:=HE.out.sees
 simp only [sees,af,ac,aa,Nat.reduceAdd,List.set_cons_succ,List.set_cons_zero] at F9
 obtain ⟨⟨⟨y0,g0⟩,q0,q1,q2,-⟩,-⟩:=F9
 exact bodyPost_ret (v:=.agg #[.int .u8 2,.int .i64 1,.string ⟨#[]⟩]) (by simp [results,results178,go_sem,q0,q1,q2]) rfl ⟨rfl,HE.out.bel⟩
theorem uU (s X:ByteArray) (HUP:ao (∀ w,Calls prog 164 #[.string s] w fun e w'=>e=.returned (.string X)∧Below w.heap.size w w')) (hX:X=⟨#[70,65,76,83,69]⟩) (w:World) :
  Calls prog 178 #[.agg #[.int .u8 3,.int .i64 0,.string s]] w fun e w'=>e=.returned (.agg #[.int .u8 2,.int .i64 0,.string ⟨#[]⟩])∧Below w.heap.size w w':=by
 subst hX
 have H1:=Lib.hid (((Ok.start w).alloc w.heap.size 152 [.int .u8 3,.int .i64 0,.string s] rfl).var (w.heap.size+1) 35 [.int .u8 0,.int .i64 0,.string ⟨#[]⟩] (by simp))
 go_enter func178,ntmps178
 go_wp2_with fail
 generalize ((w.alloc (.cells #[.int .u8 3,.int .i64 0,.string s] 152)).alloc (.cells #[.int .u8 0,.int .i64 0,.string ⟨#[]⟩] 35))=W2 at H1 ⊢
 have F3:=sE H1
 refine cM (HUP.out _) H1 fun w4 H6=>?_
 clear F3 H1
 have F7:=sE H6
 go_wp2_with fail
 refine cM (oF _) H6 fun w8 H10=>?_
 clear F7 H6
 have F11:=sE H10
 go_wp2_with fail
 have hfar:∀ x∈[ac (w.heap.size) 152 [.int .u8 3,.int .i64 0,.string s]],x.far (some (w.heap.size+1)):=by
  intro x hx
  rw [List.mem_singleton] at hx
  subst hx
  show some w.heap.size≠some (w.heap.size+1)
  simp
 have HE:=Lib.hid (((H10.out.set_ (i:=0) (u:=.int .u8 2) (by omega) hfar).set_ (i:=1) (u:=.int .i64 0) (by omega) hfar).set_ (i:=2) (u:=.string ⟨#[]⟩) (by omega) hfar)
 have F9:=HE.out.sees
 simp only [sees,af,ac,aa,Nat.reduceAdd,List.set_cons_succ,List.set_cons_zero] at F9
 obtain ⟨⟨⟨y0,g0⟩,q0,q1,q2,-⟩,-⟩:=F9
 exact bodyPost_ret (v:=.agg #[.int .u8 2,.int .i64 0,.string ⟨#[]⟩]) (by simp [results,results178,go_sem,q0,q1,q2]) rfl ⟨rfl,HE.out.bel⟩
theorem uV (s X:ByteArray) (HUP:ao (∀ w,Calls prog 164 #[.string s] w fun e w'=>e=.returned (.string X)∧Below w.heap.size w w')) (h1:(X.toList == [84,82,85,69])=false) (h2:(X.toList == [70,65,76,83,69])=false) (w:World) :
  Calls prog 178 #[.agg #[.int .u8 3,.int .i64 0,.string s]] w fun e w'=>e=.returned (.agg #[.int .u8 4,.int .i64 2,.string ⟨#[]⟩])∧Below w.heap.size w w':=by
 have H1:=Lib.hid (((Ok.start w).alloc w.heap.size 152 [.int .u8 3,.int .i64 0,.string s] rfl).var (w.heap.size+1) 35 [.int .u8 0,.int .i64 0,.string ⟨#[]⟩] (by simp))
 go_enter func178,ntmps178
 go_wp2_with fail
 generalize ((w.alloc (.cells #[.int .u8 3,.int .i64 0,.string s] 152)).alloc (.cells #[.int .u8 0,.int .i64 0,.string ⟨#[]⟩] 35))=W2 at H1 ⊢
 have F3:=sE H1
 refine cM (HUP.out _) H1 fun w4 H6=>?_
 clear F3 H1
 have F7:=sE H6
 go_wp2_with fail
 refine cM (aU 2 (by decide) (by decide) _) H6 fun w8 H10=>?_
 clear F7 H6
 have F11:=sE H10
 go_wp2_with fail
 have hfar:∀ x∈[ac (w.heap.size) 152 [.int .u8 3,.int .i64 0,.string s]],x.far (some (w.heap.size+1)):=by
  intro x hx
  rw [List.mem_singleton] at hx
  subst hx
  show some w.heap.size≠some (w.heap.size+1)
  simp
 have HE:=Lib.hid (((H10.out.set_ (i:=0) (u:=.int .u8 4) (by omega) hfar).set_ (i:=1) (u:=.int .i64 2) (by omega) hfar).set_ (i:=2) (u:=.string ⟨#[]⟩) (by omega) hfar)
 have F9:=HE.out.sees
 simp only [sees,af,ac,aa,Nat.reduceAdd,List.set_cons_succ,List.set_cons_zero] at F9
 obtain ⟨⟨⟨y0,g0⟩,q0,q1,q2,-⟩,-⟩:=F9
 exact bodyPost_ret (v:=.agg #[.int .u8 4,.int .i64 2,.string ⟨#[]⟩]) (by simp [results,results178,go_sem,q0,q1,q2]) rfl ⟨rfl,HE.out.bel⟩
def xj (v:Value):Array MapEntry:=#[{ key:=.int .u8 0,val:=bnd 177 v,born:=0 },{ key:=.int .u8 1,val:=bnd 177 v,born:=1 },{ key:=.int .u8 2,val:=bnd 127 v,born:=2 },{ key:=.int .u8 3,val:=bnd 178 v,born:=3 },{ key:=.int .u8 4,val:=bnd 127 v,born:=4 }]
theorem zc (v:Value) (w:World):(Instr.mapUpdate 153 (.map (some w.heap.size)) (.int .u8 0) (.func (.func 177) #[v] #[])).run prog (w.alloc (.map #[] 0))=.ok () (w.alloc (.map #[{ key:=.int .u8 0,val:=bnd 177 v,born:=0 }] 1)) :=
 bb _ _ _ _ dR dQ _ _ _ _ (by simp [MapKept.IsKey]) rfl w
theorem zd (v:Value) (w:World):(Instr.mapUpdate 153 (.map (some w.heap.size)) (.int .u8 1) (.func (.func 177) #[v] #[])).run prog (w.alloc (.map #[{ key:=.int .u8 0,val:=bnd 177 v,born:=0 }] 1))=.ok () (w.alloc (.map #[{ key:=.int .u8 0,val:=bnd 177 v,born:=0 },{ key:=.int .u8 1,val:=bnd 177 v,born:=1 }] 2)) :=
 bb _ _ _ _ dR dQ _ _ _ _ (by simp [MapKept.IsKey]) rfl w
theorem ze (v:Value) (w:World):(Instr.mapUpdate 153 (.map (some w.heap.size)) (.int .u8 2) (.func (.func 127) #[v] #[])).run prog (w.alloc (.map #[{ key:=.int .u8 0,val:=bnd 177 v,born:=0 },{ key:=.int .u8 1,val:=bnd 177 v,born:=1 }] 2))=.ok () (w.alloc (.map #[{ key:=.int .u8 0,val:=bnd 177 v,born:=0 },{ key:=.int .u8 1,val:=bnd 177 v,born:=1 },{ key:=.int .u8 2,val:=bnd 127 v,born:=2 }] 3)) :=
 bb _ _ _ _ dR dQ _ _ _ _ (by simp [MapKept.IsKey]) rfl w
theorem zf (v:Value) (w:World):(Instr.mapUpdate 153 (.map (some w.heap.size)) (.int .u8 3) (.func (.func 178) #[v] #[])).run prog (w.alloc (.map #[{ key:=.int .u8 0,val:=bnd 177 v,born:=0 },{ key:=.int .u8 1,val:=bnd 177 v,born:=1 },{ key:=.int .u8 2,val:=bnd 127 v,born:=2 }] 3))=.ok () (w.alloc (.map #[{ key:=.int .u8 0,val:=bnd 177 v,born:=0 },{ key:=.int .u8 1,val:=bnd 177 v,born:=1 },{ key:=.int .u8 2,val:=bnd 127 v,born:=2 },{ key:=.int .u8 3,val:=bnd 178 v,born:=3 }] 4)) :=
 bb _ _ _ _ dR dQ _ _ _ _ (by simp [MapKept.IsKey]) rfl w
theorem zg (v:Value) (w:World):(Instr.mapUpdate 153 (.map (some w.heap.size)) (.int .u8 4) (.func (.func 127) #[v] #[])).run prog (w.alloc (.map #[{ key:=.int .u8 0,val:=bnd 177 v,born:=0 },{ key:=.int .u8 1,val:=bnd 177 v,born:=1 },{ key:=.int .u8 2,val:=bnd 127 v,born:=2 },{ key:=.int .u8 3,val:=bnd 178 v,born:=3 }] 4))=.ok () (w.alloc (.map #[{ key:=.int .u8 0,val:=bnd 177 v,born:=0 },{ key:=.int .u8 1,val:=bnd 177 v,born:=1 },{ key:=.int .u8 2,val:=bnd 127 v,born:=2 },{ key:=.int .u8 3,val:=bnd 178 v,born:=3 },{ key:=.int .u8 4,val:=bnd 127 v,born:=4 }] 5)) :=
 bb _ _ _ _ dR dQ _ _ _ _ (by simp [MapKept.IsKey]) rfl w
theorem vp (s:ByteArray) (w:World) :
  Calls prog 176 #[.agg #[.int .u8 3,.int .i64 0,.string s]] w fun e w'=>∃ r,e=.returned (.map (some r))∧w'.heap[r]?=some (.map (xj (.agg #[.int .u8 3,.int .i64 0,.string s])) 5)∧Below w.heap.size w w':=by
 have hmm:=@run_makeMap prog
 have t0:=zc (.agg #[.int .u8 3,.int .i64 0,.string s])
 have t1:=zd (.agg #[.int .u8 3,.int .i64 0,.string s])
 have t2:=ze (.agg #[.int .u8 3,.int .i64 0,.string s])
 have t3:=zf (.agg #[.int .u8 3,.int .i64 0,.string s])
 have t4:=zg (.agg #[.int .u8 3,.int .i64 0,.string s])
 obtain ⟨P,hP⟩:∃ P:Ending→World→Prop,(fun (e:Ending) (w':World)=>∃ r,e=.returned (.map (some r))∧w'.heap[r]?=some (.map (xj (.agg #[.int .u8 3,.int .i64 0,.string s])) 5)∧Below w.heap.size w w')=P:=⟨_,rfl⟩
 rw [hP]
 have HPP:=keep hP
 clear hP
 have H1:=Lib.hid ((Ok.start w).alloc w.heap.size 152 [.int .u8 3,.int .i64 0,.string s] rfl)
 go_enter func176,ntmps176
 go_upto_region 1 with fail
 generalize (w.alloc (.cells #[.int .u8 3,.int .i64 0,.string s] 152))=W2 at H1 ⊢
 have F3:=sE H1
 go_wp2_with fail
 first
  | go_ret
  | skip
 rw [← HPP.out]
 exact ⟨_,rfl,d9 _ _,(H1.out.alloc_obj _).bel⟩
theorem lM (s:ByteArray) (r0 r1:Int) (HSZ:Hid (s.size≤4611686018427387904)) (hv:bm 3 0 s.data.toList=0) (HN:ao (∀ w,Calls prog 178 #[.agg #[.int .u8 3,.int .i64 0,.string s]] w fun e w'=>e=.returned (.agg #[.int .u8 r0,.int .i64 r1,.string ⟨#[]⟩])∧Below w.heap.size w w')) (w:World) :
  Calls prog 119 #[.agg #[.int .u8 3,.int .i64 0,.string s]] w fun e w'=>e=.returned (.agg #[.int .u8 r0,.int .i64 r1,.string ⟨#[]⟩])∧Below w.heap.size w w':=by
 have H1:=Lib.hid (((Ok.start w).alloc w.heap.size 35 [.int .u8 3,.int .i64 0,.string s] rfl).var (w.heap.size+1) 35 [.int .u8 0,.int .i64 0,.string ⟨#[]⟩] (by simp))
 go_enter func119,ntmps119
 go_wp2_with fail
 generalize ((w.alloc (.cells #[.int .u8 3,.int .i64 0,.string s] 35)).alloc (.cells #[.int .u8 0,.int .i64 0,.string ⟨#[]⟩] 35))=W2 at H1 ⊢
 have F3:=sE H1
 refine cM (cS 176 178 (xj (.agg #[.int .u8 3,.int .i64 0,.string s])) 3 0 s (.agg #[.int .u8 3,.int .i64 0,.string s]) r0 r1 ⟨#[]⟩ (keep fun w=>vp s w) (keep ⟨by simp [MapKept.IsKey],3,rfl⟩) HN (fun _ _=>by kernel_rfl) (fun _ _=>by kernel_rfl) HSZ hv _) H1 fun w4 H6=>?_
 clear F3 H1
 have F7:=sE H6
 go_wp2_with fail
 have hfar:∀ x∈[ac (w.heap.size) 35 [.int .u8 3,.int .i64 0,.string s]],x.far (some (w.heap.size+1)):=by
  intro x hx
  rw [List.mem_singleton] at hx
  subst hx
  show some w.heap.size≠some (w.heap.size+1)
  simp
 have HE:=Lib.hid (((H6.out.set_ (i:=0) (u:=.int .u8 r0) (by omega) hfar).set_ (i:=1) (u:=.int .i64 r1) (by omega) hfar).set_ (i:=2) (u:=.string ⟨#[]⟩) (by omega) hfar)
 have F9:=HE.out.sees
 simp only [sees,af,ac,aa,Nat.reduceAdd,List.set_cons_succ,List.set_cons_zero] at F9
 obtain ⟨⟨⟨y0,g0⟩,q0,q1,q2,-⟩,-⟩:=F9
 exact bodyPost_ret (v:=.agg #[.int .u8 r0,.int .i64 r1,.string ⟨#[]⟩]) (by simp [results,results119,go_sem,q0,q1,q2]) rfl ⟨rfl,HE.out.bel⟩
theorem rt {l m:List UInt8} (h:l≠m):((⟨l.toArray⟩:ByteArray).toList == m)=false:=by
 rw [ByteArray.toList_mk]
 exact beq_eq_false_iff_ne.2 h
def i6 (l:List UInt8):Int×Int:=if l.map upB=c6 then (2,1) else if l.map upB=cf then (2,0) else (4,2)
theorem m2 (s:ByteArray) (hs:s.size≤4611686018427387904) (hc:aC s.data.toList=0) (w:World) :
  Calls prog 119 #[.agg #[.int .u8 3,.int .i64 0,.string s]] w fun e w'=>e=.returned (.agg #[.int .u8 (i6 s.data.toList).1,.int .i64 (i6 s.data.toList).2,.string ⟨#[]⟩])∧Below w.heap.size w w':=by
 have hv:bm 3 0 s.data.toList=0:=aF (.inr (.inr (.inr (.inl ⟨rfl,rfl,hc⟩))))
 have HUP:=keep fun w=>dY s w hs
 by_cases h1:s.data.toList.map upB=c6
 ·have e:i6 s.data.toList=(2,1):=if_pos h1
  rw [e]
  rw [h1] at HUP
  exact lM s 2 1 (Lib.hid hs) hv (keep fun w=>uW s _ HUP rfl w) w
 by_cases h2:s.data.toList.map upB=cf
 ·have e:i6 s.data.toList=(2,0):=by unfold i6; rw [if_neg h1,if_pos h2]
  rw [e]
  rw [h2] at HUP
  exact lM s 2 0 (Lib.hid hs) hv (keep fun w=>uU s _ HUP rfl w) w
 have e:i6 s.data.toList=(4,2):=by unfold i6; rw [if_neg h1,if_neg h2]
 rw [e]
 exact lM s 4 2 (Lib.hid hs) hv (keep fun w=>uV s _ HUP (rt h1) (rt h2) w) w
