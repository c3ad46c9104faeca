/- The contract of tree.names and tree.Function. The contracts of what parse.Formula defers. Contracts of glyph.Check, val.Check and tree.fields, at what a formula may hold. -/
import Derived.Test.YtdplcdhpnmcdjaaGreatDoorKParB
import Derived.Test.YtdplcdhpnmcdjaaGreatDoorKTg
import Derived.Defers
import Derived.Recover
import Derived.Test.YtdplcdhpnmcdjaaGreatDoorKLexI
import Derived.Test.YtdplcdhpnmcdjaaGreatDoorKVal
import Derived.Test.YtdplcdhpnmcdjaaGreatDoorKParA
import Derived.Test.YtdplcdhpnmcdjaaGreatDoorKAddP6
import Derived.Test.YtdplcdhpnmcdjaaGreatDoorKAddrP
import Derived.Deep.DeepCutAuto
namespace Go.Proofs.YtdplcdhpnmcdjaaGreatDoor
set_option maxRecDepth 100000
set_option maxHeartbeats 8000000
open Go.RowKit Go.Proofs.Tryz
def am:List Value:=dx.map fun x=>.string ⟨x.toArray⟩
theorem kI:(am.toArray.all (·.oneCell'))=true:=by kernel_rfl
def fN:Array Value:=#[.string ⟨#[]⟩,.string ⟨#[]⟩,.string ⟨#[]⟩,.string ⟨#[]⟩,.string ⟨#[]⟩,.string ⟨#[]⟩,.string ⟨#[]⟩,.string ⟨#[]⟩,.string ⟨#[]⟩,.string ⟨#[]⟩,.string ⟨#[]⟩,.string ⟨#[]⟩,.string ⟨#[]⟩,.string ⟨#[]⟩,.string ⟨#[]⟩,.string ⟨#[]⟩,.string ⟨#[]⟩,.string ⟨#[]⟩,.string ⟨#[]⟩,.string ⟨#[]⟩,.string ⟨#[]⟩,.string ⟨#[]⟩,.string ⟨#[]⟩,.string ⟨#[]⟩,.string ⟨#[]⟩,.string ⟨#[]⟩,.string ⟨#[]⟩,.string ⟨#[]⟩,.string ⟨#[]⟩,.string ⟨#[]⟩,.string ⟨#[]⟩,.string ⟨#[]⟩,.string ⟨#[]⟩,.string ⟨#[]⟩,.string ⟨#[]⟩,.string ⟨#[]⟩,.string ⟨#[]⟩,.string ⟨#[]⟩,.string ⟨#[]⟩,.string ⟨#[]⟩,.string ⟨#[]⟩,.string ⟨#[]⟩,.string ⟨#[]⟩,.string ⟨#[]⟩,.string ⟨#[]⟩,.string ⟨#[]⟩,.string ⟨#[]⟩,.string ⟨#[]⟩,.string ⟨#[]⟩,.string ⟨#[]⟩]
theorem kg:fN.size=am.toArray.size:=by kernel_rfl
theorem gz:(prog.info? 173).map (·.size)=some am.toArray.size:=by kernel_rfl
theorem pk (w:World) (t:TypeId) (old V:Array Value):((w.alloc (.cells old t)).setRow w.heap.size V).heap[w.heap.size]?=some (.cells V t (0,0)):=by
 exact setRow_heap (w.alloc (.cells old t)) w.heap.size old V t (0,0) (heap_alloc_new w _)
theorem kN (w:World) (t:TypeId) (old V:Array Value):Below w.heap.size w ((w.alloc (.cells old t)).setRow w.heap.size V) :=
 ⟨rfl,rfl,rfl,by simp,fun i hi=>by
  unfold World.setRow
  simp only [Array.getElem?_modify]
  rw [if_neg (by omega)]
  exact Below.heap_alloc w _ i hi⟩
theorem j5 (w:World) :
  Calls prog 144 #[] w fun e w'=>e=.returned (.agg am.toArray)∧Below w.heap.size w w':=by
 go_enter func144,ntmps144
 go_upto_region 1 with fail
 change Code.wp _ _ _ _ (w.alloc (.cells fN _))
 go_wp2_with (first | (refine wpList_build rfl _ _ rfl (by kernel_rfl) ?_) | (refine wpList_store_row rfl _ _ _ rfl w.heap.size am.toArray rfl (by kernel_rfl) 173 fN (heap_alloc_new _ _) gz kg kI ?_))
 refine bodyPost_ret (v:=.agg am.toArray) ?_ rfl ⟨rfl,kN _ _ _ _⟩
 exact results_cell_row rfl _ _ w.heap.size 173 am.toArray (0,0) _ rfl (pk _ _ _ _) underlying173 rfl gz
theorem wA (x:List UInt8):nJ dx x=if fnS x=0 then -1 else ((fnS x:Nat):Int) - 1:=by
 unfold nJ fnS
 cases dx.findIdx? (· == x) with
 | none=>rfl
 | some i=>simp
theorem rx (x:List UInt8):fnS x≤50:=by
 unfold fnS
 split
 ·rename_i i h
  rw [List.findIdx?_eq_some_iff_getElem] at h
  obtain ⟨h1,_⟩:=h
  have:dx.length=50:=rfl
  omega
 omega
def fnE (x:List UInt8):Int:=if fnS x=0 then 6 else 0
theorem df (x:List UInt8) (w:World) :
  Calls prog 245 #[.string ⟨x.toArray⟩] w fun e w'=>e=.returned (.tuple #[.int .u8 (fnS x:Nat),.int .i64 (fnE x)])∧Below w.heap.size w w':=by
 have HX:=keep (wA x)
 have hle:=rx x
 have HE:=keep (show (fnS x=0→fnE x=6)∧(fnS x≠0→fnE x=0) from ⟨fun h=>if_pos h,fun h=>if_neg h⟩)
 go_enter func245,ntmps245
 go_wp2_with fail
 refine (j5 _).mono ?_
 rintro e w1 ⟨rfl,hb1⟩
 have hrow:=pk w1 173 fN am.toArray
 have hbl:=kN w1 173 fN am.toArray
 obtain ⟨W1,hW1⟩:=ex ((w1.alloc (.cells fN 173)).setRow w1.heap.size am.toArray)
 rw [hW1] at hrow hbl
 have hcs:∀ i (h:i<dx.length),W1.cell? ⟨w1.heap.size,i,none⟩=some (.string ⟨dx[i].toArray⟩):=by
  intro i h
  rw [cell_of_row W1 w1.heap.size i _ _ _ hrow]
  unfold am
  simp [h]
 have HC:=keep hcs
 have HB:=Lib.hid (al hb1 hbl)
 clear hcs hrow hbl hb1
 have HW:=Lib.hid hW1
 clear hW1
 go_wp2_with (refine wpList_store_row rfl _ _ _ rfl w1.heap.size am.toArray rfl rfl 173 fN (heap_alloc_new _ _) gz kg kI ?_; change wpList _ _ _ _ _ ((w1.alloc (.cells fN 173)).setRow w1.heap.size am.toArray); rw [HW.out])
 refine (nK dx x w1.heap.size 50 W1 (by decide) HC.out).mono ?_
 rintro e w2 ⟨rfl,hw2⟩
 obtain rfl:W1=w2:=hw2.symm
 rw [HX.out]
 by_cases h0:fnS x=0
 ·rw [if_pos h0]
  have HF:=keep (show fnS x=0∧fnE x=6 from ⟨h0,HE.out.1 h0⟩)
  clear h0
  go_wp2_with fail
  exact bodyPost_ret (v:=.tuple #[.int .u8 0,.int .i64 6]) (by simp [results,results245,go_sem]) rfl ⟨by rw [HF.out.1,HF.out.2]; rfl,HB.out⟩
 rw [if_neg h0]
 have HF:=keep (HE.out.2 h0)
 obtain ⟨n,hn⟩:=ex (fnS x)
 rw [hn] at h0 hle ⊢
 have h1:¬ (n:Int) - 1<0:=by omega
 have h2:(n:Int) - 1+1=n:=by omega
 have h3:(n:Int) % 256=n:=by omega
 have HN:=keep hn
 clear hn
 go_wp2_with fail
 exact bodyPost_ret (v:=.tuple #[.int .u8 (n:Int),.int .i64 0]) (by simp [results,results245,go_sem]) rfl ⟨by rw [HF.out,HN.out],HB.out⟩
def pA (fn i:Nat):Int:=if (arS fn).2≤i then 3 else 0
theorem dh (fn:Nat) (w:World) :
  Calls prog 187 #[.int .u8 (fn:Nat)] w fun e w'=>e=.returned (.bool (decide (46≤fn∧fn≤50)))∧w'=w:=by
 by_cases h:46≤fn
 ·have g1:(46:Int)≤fn:=by omega
  go_enter func187,ntmps187
  go_wp2_with fail
  go_ret
  exact ⟨by show Ending.returned (Value.bool (decide ((fn:Int)≤50)))=_; congr 2; rw [decide_eq_decide]; omega,rfl⟩
 have g1:¬ (46:Int)≤fn:=by omega
 go_enter func187,ntmps187
 go_wp2_with fail
 go_ret
 exact ⟨by first | rfl | (rw [decide_eq_false (by omega)]; rfl),rfl⟩
theorem yO (x:Nat):((x:Int) == 1)=(x == 1):=by rw [Bool.eq_iff_iff]; simp; omega
theorem vB (fn i:Nat) (h:(arS fn).2≤i):cE fn i=false∧pA fn i=3:=⟨by unfold cE; rw [if_pos h],if_pos h⟩
theorem sr (fn i:Nat) (h:¬ (arS fn).2≤i) (hf:fn=9∨fn=10∨fn=11∨fn=12∨fn=14∨fn=15∨fn=16∨fn=17):cE fn i=true:=by
 unfold cE
 rw [if_neg h,if_pos (by simpa using hf)]
theorem vA (fn i:Nat) (h:¬ (arS fn).2≤i) (hf:fn=44):cE fn i=(i == 1):=by
 subst hf
 unfold cE
 rw [if_neg h,if_neg (by decide),if_pos rfl]
theorem ss (fn i:Nat) (h:¬ (arS fn).2≤i) (hf:fn=18∨fn=19∨fn=45∨fn=43∨fn=13):cE fn i=(i == 0):=by
 unfold cE
 rw [if_neg h,if_neg (by simp; omega),if_neg (by omega),if_pos (by simpa using hf)]
theorem qN (fn i:Nat) (h:¬ (arS fn).2≤i) (hf:¬ (fn=9∨fn=10∨fn=11∨fn=12∨fn=14∨fn=15∨fn=16∨fn=17∨fn=44∨fn=18∨fn=19∨fn=45∨fn=43∨fn=13)):cE fn i=decide (46≤fn∧fn≤50):=by
 unfold cE
 rw [if_neg h,if_neg (by simp; omega),if_neg (by omega),if_neg (by simp; omega)]
theorem iC (fn i:Nat) (w:World) (h1:1≤fn) (h2:fn≤50) :
  Calls prog 186 #[.int .u8 (fn:Nat),.int .i64 (i:Nat)] w fun e w'=>e=.returned (.tuple #[.bool (cE fn i),.int .i64 (pA fn i)])∧w'=w:=by
 by_cases hm:(arS fn).2≤i
 ·have HM:=keep (vB fn i hm)
  have hmi:(((arS fn).2:Nat):Int)≤(i:Int):=by omega
  clear hm
  go_enter func186,ntmps186
  go_wp2_with fail
  refine (cw fn _ h1 h2).mono ?_
  rintro e w' ⟨rfl,hw⟩
  obtain rfl:w=w':=hw.symm
  go_wp2_with fail
  exact bodyPost_ret (v:=.tuple #[.bool false,.int .i64 3]) (by simp [results,results186,go_sem]) rfl ⟨by rw [HM.out.1,HM.out.2],rfl⟩
 have HE:=keep (show pA fn i=0 from if_neg hm)
 have HM:=keep hm
 have hmi:¬ (((arS fn).2:Nat):Int)≤(i:Int):=by omega
 clear hm
 go_enter func186,ntmps186
 go_wp2_with fail
 refine (cw fn _ h1 h2).mono ?_
 rintro e w' ⟨rfl,hw⟩
 obtain rfl:w=w':=hw.symm
 go_wp2_with fail
 all_goals simp only [beq_iff_eq,beq_eq_false_iff_ne,ne_eq] at *
 all_goals
  first
  | exact bodyPost_ret (v:=.tuple #[.bool true,.int .i64 0]) (by simp [results,results186,go_sem]) rfl ⟨by rw [HE.out,sr fn i HM.out (by omega)],rfl⟩
  | exact bodyPost_ret (v:=.tuple #[.bool ((i:Int) == 1),.int .i64 0]) (by simp [results,results186,go_sem]) rfl ⟨by rw [HE.out,vA fn i HM.out (by omega),yO],rfl⟩
  | exact bodyPost_ret (v:=.tuple #[.bool ((i:Int) == 0),.int .i64 0]) (by simp [results,results186,go_sem]) rfl ⟨by rw [HE.out,ss fn i HM.out (by omega),yN],rfl⟩
  | skip
 have HA:=keep (qN fn i HM.out (by omega))
 refine (dh fn _).mono ?_
 rintro e w' ⟨rfl,hw⟩
 obtain rfl:w=w':=hw.symm
 rw [← HA.out]
 go_wp2_with fail
 exact bodyPost_ret (v:=.tuple #[.bool (cE fn i),.int .i64 0]) (by simp [results,results186,go_sem]) rfl ⟨by rw [HE.out],rfl⟩
set_option maxRecDepth 100000
set_option maxHeartbeats 1000000
theorem iI (w0:World) (tb ab eb:Nat) (v1 v2 v3:Value) (a c:Int) (w:World) (ht:w0.heap.size≤tb) (ha:w0.heap.size≤ab) (he:w0.heap.size≤eb) (h12:tb≠ab) (h13:tb≠eb) (h23:ab≠eb) (h:Ok w0 [af tb 22 [v1],af ab 3 [v2],af eb 24 [v3]] w) :
  CallsD prog 62 #[.pointer (some ⟨tb,0,none⟩),.pointer (some ⟨ab,0,none⟩),.pointer (some ⟨eb,0,none⟩)] (.panicking (nw a c)) w fun e u' w' =>
   e=.returned (.tuple #[])∧u'=.panicking [{ v:=.iface 92 (.agg #[.int .i64 a,.int .i64 c]),recovered:=true }] ∧
    Ok w0 [af tb 22 [.slice none 0 0],af ab 3 [.int .i64 a],af eb 24 [.int .i64 c]] w':=by
 have hta:∀ w:World,(Instr.typeAssert (.iface 92 (.agg #[.int .i64 a,.int .i64 c])) 20 92 true).run prog w=.ok (.tuple #[.agg #[.int .i64 a,.int .i64 c],.bool true]) w:=fun _=>by kernel_rfl
 have H:=Lib.hid h
 clear h
 have F:=H.out.sees
 simp only [sees,af,aa] at F
 obtain ⟨⟨⟨z0,f0⟩,c0,-⟩,⟨⟨z1,f1⟩,c1,-⟩,⟨⟨z2,f2⟩,c2,-⟩,-⟩:=F
 refine callsD_of_wpS func62 rfl fun c₀ cs hu => ?_
 apply wpS_seq
 apply wpS_region
 simp [wpOpsS,go_sem,recoverD,hu,ntmps62,Exit.thenS,nw]
 refine wpS_of_wp ?_
 go_wp2_with fail
 have n1:w.heap.size≠tb:=by omega
 have n2:tb≠w.heap.size:=by omega
 have HA:=Lib.hid (H.out.alloc w.heap.size 92 [.int .i64 a,.int .i64 c] rfl)
 clear c0 z0 f0 c1 z1 f1 c2 z2 f2 H
 generalize (w.alloc (.cells #[.int .i64 a,.int .i64 c] 92))=wa at HA ⊢
 generalize w.heap.size=ob at HA n1 n2 ⊢
 have F:=HA.out.sees
 simp only [sees,af,ac,aa,Nat.reduceAdd] at F
 obtain ⟨⟨z3,c3,c4,-⟩,⟨⟨z0,f0⟩,c0,-⟩,⟨⟨z1,f1⟩,c1,-⟩,⟨⟨z2,f2⟩,c2,-⟩,-⟩:=F
 have HE:=Lib.hid (((((((HA.out.drop [af tb 22 [v1],af ab 3 [v2],af eb 24 [v3]] (by simp)).set_ (i:=0) (u:=.slice none 0 0) ht (by simp [af]; omega)).drop
  [af ab 3 [v2],af tb 22 [.slice none 0 0],af eb 24 [v3]] (by simp)).set_ (i:=0) (u:=.int .i64 a) ha (by simp [af]; omega)).drop
  [af eb 24 [v3],af tb 22 [.slice none 0 0],af ab 3 [.int .i64 a]] (by simp)).set_ (i:=0) (u:=.int .i64 c) he (by simp [af]; omega)).drop
  [af tb 22 [.slice none 0 0],af ab 3 [.int .i64 a],af eb 24 [.int .i64 c]] (by simp)).drew
 go_region
 all_goals go_wp2_with fail
 all_goals exact ⟨rfl,_,rfl,_,results_none rfl _ _ _,rfl,rfl,HE.out⟩
theorem jj (tb ab eb:Nat) (w:World) :
  CallsD prog 62 #[.pointer (some ⟨tb,0,none⟩),.pointer (some ⟨ab,0,none⟩),.pointer (some ⟨eb,0,none⟩)] .returning w fun e u' w'=>e=.returned (.tuple #[])∧u'=.returning∧w'=w:=by
 refine callsD_of_wpS func62 rfl fun c₀ cs hu => ?_
 apply wpS_seq
 apply wpS_region
 simp [wpOpsS,go_sem,recoverD,hu,ntmps62,Exit.thenS]
 refine wpS_of_wp ?_
 go_wp2_with fail
 cases c₀
 simp only [] at hu
 subst hu
 exact ⟨rfl,_,rfl,_,results_none rfl _ _ _,rfl,rfl,rfl⟩
set_option maxRecDepth 100000
set_option maxHeartbeats 4000000
theorem jz (s:ByteArray) (w:World) (hs:s.size≤256) (hp:s.data.toList.all aj=true) :
  Calls prog 71 #[.string s] w fun e w'=>e=.returned (.int .i64 0)∧Below w.heap.size w w':=by
 have hi:¬ (s.size:Int)>256:=by omega
 have HP:=keep hp
 clear hp
 go_enter func71,ntmps71
 go_wp2_with fail
 refine (dq s _ (by omega)).mono ?_
 rintro e w1 ⟨rfl,hb⟩
 rw [HP.out]
 have HB:=Lib.hid hb
 clear hb
 go_wp2_with fail
 go_ret
 exact ⟨rfl,HB.out⟩
def eW (vk:Nat) (vn:Int) (vt:List UInt8):Prop :=
 (vk=1∧0≤vn∧vt=[])∨(vk=2∧(vn=0∨vn=1)∧vt=[])∨(vk=3∧vn=0∧vt.length≤256∧vt.all aj=true)∨(vk=4∧(1≤vn∧vn≤5)∧vt=[])
theorem pN (n:Int) (h:0≤n) (w:World) :
  Calls prog 37 #[.agg #[.int .u8 1,.int .i64 n,.string ⟨#[]⟩]] w fun e w'=>e=.returned (.int .i64 0)∧Below w.heap.size w w':=by
 have H1:=Lib.hid ((Ok.start w).alloc w.heap.size 35 [.int .u8 1,.int .i64 n,.string ⟨#[]⟩] rfl)
 have hne:(n != -9223372036854775808)=true:=by simp; omega
 go_enter func37,ntmps37
 go_wp2_with fail
 generalize (w.alloc (.cells #[.int .u8 1,.int .i64 n,.string ⟨#[]⟩] 35))=W2 at H1 ⊢
 go_ret
 exact ⟨rfl,H1.out.bel⟩
theorem qY  (w:World) :
  Calls prog 37 #[.agg #[.int .u8 2,.int .i64 0,.string ⟨#[]⟩]] w fun e w'=>e=.returned (.int .i64 0)∧Below w.heap.size w w':=by
 have H1:=Lib.hid ((Ok.start w).alloc w.heap.size 35 [.int .u8 2,.int .i64 0,.string ⟨#[]⟩] rfl)
 go_enter func37,ntmps37
 go_wp2_with fail
 generalize (w.alloc (.cells #[.int .u8 2,.int .i64 0,.string ⟨#[]⟩] 35))=W2 at H1 ⊢
 go_ret
 exact ⟨rfl,H1.out.bel⟩
theorem pP  (w:World) :
  Calls prog 37 #[.agg #[.int .u8 2,.int .i64 1,.string ⟨#[]⟩]] w fun e w'=>e=.returned (.int .i64 0)∧Below w.heap.size w w':=by
 have H1:=Lib.hid ((Ok.start w).alloc w.heap.size 35 [.int .u8 2,.int .i64 1,.string ⟨#[]⟩] rfl)
 go_enter func37,ntmps37
 go_wp2_with fail
 generalize (w.alloc (.cells #[.int .u8 2,.int .i64 1,.string ⟨#[]⟩] 35))=W2 at H1 ⊢
 go_ret
 exact ⟨rfl,H1.out.bel⟩
theorem pO (t:List UInt8) (h:t.length≤256) (hp:t.all aj=true) (w:World) :
  Calls prog 37 #[.agg #[.int .u8 3,.int .i64 0,.string ⟨t.toArray⟩]] w fun e w'=>e=.returned (.int .i64 0)∧Below w.heap.size w w':=by
 have H1:=Lib.hid ((Ok.start w).alloc w.heap.size 35 [.int .u8 3,.int .i64 0,.string ⟨t.toArray⟩] rfl)
 go_enter func37,ntmps37
 go_wp2_with fail
 generalize (w.alloc (.cells #[.int .u8 3,.int .i64 0,.string ⟨t.toArray⟩] 35))=W2 at H1 ⊢
 refine cM (jz ⟨t.toArray⟩ _ h hp) H1 fun w3 H5=>?_
 clear H1
 have F6:=sE H5
 go_wp2_with fail
 go_ret
 exact ⟨rfl,H5.out.bel⟩
theorem nB  (w:World) :
  Calls prog 137 #[.agg #[.int .u8 4,.int .u8 0,.int .i64 0,.string ⟨#[]⟩,.int .i64 0,.int .i64 0,.int .i64 0,.int .i64 0,.int .i64 0,.int .u8 0,.int .i64 0]] w fun e w'=>e=.returned (.int .i64 0)∧Below w.heap.size w w':=by
 have H1:=Lib.hid ((Ok.start w).alloc w.heap.size 39 [.int .u8 4,.int .u8 0,.int .i64 0,.string ⟨#[]⟩,.int .i64 0,.int .i64 0,.int .i64 0,.int .i64 0,.int .i64 0,.int .u8 0,.int .i64 0] rfl)
 go_enter func137,ntmps137
 go_wp2_with fail
 generalize (w.alloc (.cells #[.int .u8 4,.int .u8 0,.int .i64 0,.string ⟨#[]⟩,.int .i64 0,.int .i64 0,.int .i64 0,.int .i64 0,.int .i64 0,.int .u8 0,.int .i64 0] 39))=W2 at H1 ⊢
 go_ret
 exact ⟨rfl,(H1.out.alloc_obj _).bel⟩
theorem nD  (w:World) :
  Calls prog 137 #[.agg #[.int .u8 5,.int .u8 0,.int .i64 0,.string ⟨#[]⟩,.int .i64 0,.int .i64 0,.int .i64 0,.int .i64 0,.int .i64 0,.int .u8 0,.int .i64 0]] w fun e w'=>e=.returned (.int .i64 0)∧Below w.heap.size w w':=by
 have H1:=Lib.hid ((Ok.start w).alloc w.heap.size 39 [.int .u8 5,.int .u8 0,.int .i64 0,.string ⟨#[]⟩,.int .i64 0,.int .i64 0,.int .i64 0,.int .i64 0,.int .i64 0,.int .u8 0,.int .i64 0] rfl)
 go_enter func137,ntmps137
 go_wp2_with fail
 generalize (w.alloc (.cells #[.int .u8 5,.int .u8 0,.int .i64 0,.string ⟨#[]⟩,.int .i64 0,.int .i64 0,.int .i64 0,.int .i64 0,.int .i64 0,.int .u8 0,.int .i64 0] 39))=W2 at H1 ⊢
 go_ret
 exact ⟨rfl,(H1.out.alloc_obj _).bel⟩
theorem ny (op:Int) (h1:1≤op) (h2:op≤12) (w:World) :
  Calls prog 137 #[.agg #[.int .u8 6,.int .u8 0,.int .i64 0,.string ⟨#[]⟩,.int .i64 0,.int .i64 0,.int .i64 0,.int .i64 0,.int .i64 op,.int .u8 0,.int .i64 0]] w fun e w'=>e=.returned (.int .i64 0)∧Below w.heap.size w w':=by
 have H1:=Lib.hid ((Ok.start w).alloc w.heap.size 39 [.int .u8 6,.int .u8 0,.int .i64 0,.string ⟨#[]⟩,.int .i64 0,.int .i64 0,.int .i64 0,.int .i64 0,.int .i64 op,.int .u8 0,.int .i64 0] rfl)
 go_enter func137,ntmps137
 go_wp2_with fail
 generalize (w.alloc (.cells #[.int .u8 6,.int .u8 0,.int .i64 0,.string ⟨#[]⟩,.int .i64 0,.int .i64 0,.int .i64 0,.int .i64 0,.int .i64 op,.int .u8 0,.int .i64 0] 39))=W2 at H1 ⊢
 go_ret
 exact ⟨rfl,(H1.out.alloc_obj _).bel⟩
theorem nC (n:Int) (h:0≤n) (w:World) :
  Calls prog 137 #[.agg #[.int .u8 1,.int .u8 1,.int .i64 n,.string ⟨#[]⟩,.int .i64 0,.int .i64 0,.int .i64 0,.int .i64 0,.int .i64 0,.int .u8 0,.int .i64 0]] w fun e w'=>e=.returned (.int .i64 0)∧Below w.heap.size w w':=by
 have H1:=Lib.hid (((Ok.start w).alloc w.heap.size 39 [.int .u8 1,.int .u8 1,.int .i64 n,.string ⟨#[]⟩,.int .i64 0,.int .i64 0,.int .i64 0,.int .i64 0,.int .i64 0,.int .u8 0,.int .i64 0] rfl).alloc (w.heap.size+1) 39 [.int .u8 1,.int .u8 1,.int .i64 n,.string ⟨#[]⟩,.int .i64 0,.int .i64 0,.int .i64 0,.int .i64 0,.int .i64 0,.int .u8 0,.int .i64 0] (by simp))
 go_enter func137,ntmps137
 go_wp2_with fail
 generalize ((w.alloc (.cells #[.int .u8 1,.int .u8 1,.int .i64 n,.string ⟨#[]⟩,.int .i64 0,.int .i64 0,.int .i64 0,.int .i64 0,.int .i64 0,.int .u8 0,.int .i64 0] 39)).alloc (.cells #[.int .u8 1,.int .u8 1,.int .i64 n,.string ⟨#[]⟩,.int .i64 0,.int .i64 0,.int .i64 0,.int .i64 0,.int .i64 0,.int .u8 0,.int .i64 0] 39))=W2 at H1 ⊢
 refine cM (pN n h _) H1 fun w3 H5=>?_
 clear H1
 have F6:=sE H5
 go_wp2_with fail
 go_ret
 exact ⟨rfl,H5.out.bel⟩
theorem pY  (w:World) :
  Calls prog 137 #[.agg #[.int .u8 1,.int .u8 2,.int .i64 0,.string ⟨#[]⟩,.int .i64 0,.int .i64 0,.int .i64 0,.int .i64 0,.int .i64 0,.int .u8 0,.int .i64 0]] w fun e w'=>e=.returned (.int .i64 0)∧Below w.heap.size w w':=by
 have H1:=Lib.hid (((Ok.start w).alloc w.heap.size 39 [.int .u8 1,.int .u8 2,.int .i64 0,.string ⟨#[]⟩,.int .i64 0,.int .i64 0,.int .i64 0,.int .i64 0,.int .i64 0,.int .u8 0,.int .i64 0] rfl).alloc (w.heap.size+1) 39 [.int .u8 1,.int .u8 2,.int .i64 0,.string ⟨#[]⟩,.int .i64 0,.int .i64 0,.int .i64 0,.int .i64 0,.int .i64 0,.int .u8 0,.int .i64 0] (by simp))
 go_enter func137,ntmps137
 go_wp2_with fail
 generalize ((w.alloc (.cells #[.int .u8 1,.int .u8 2,.int .i64 0,.string ⟨#[]⟩,.int .i64 0,.int .i64 0,.int .i64 0,.int .i64 0,.int .i64 0,.int .u8 0,.int .i64 0] 39)).alloc (.cells #[.int .u8 1,.int .u8 2,.int .i64 0,.string ⟨#[]⟩,.int .i64 0,.int .i64 0,.int .i64 0,.int .i64 0,.int .i64 0,.int .u8 0,.int .i64 0] 39))=W2 at H1 ⊢
 refine cM (qY _) H1 fun w3 H5=>?_
 clear H1
 have F6:=sE H5
 go_wp2_with fail
 go_ret
 exact ⟨rfl,H5.out.bel⟩
theorem nH  (w:World) :
  Calls prog 137 #[.agg #[.int .u8 1,.int .u8 2,.int .i64 1,.string ⟨#[]⟩,.int .i64 0,.int .i64 0,.int .i64 0,.int .i64 0,.int .i64 0,.int .u8 0,.int .i64 0]] w fun e w'=>e=.returned (.int .i64 0)∧Below w.heap.size w w':=by
 have H1:=Lib.hid (((Ok.start w).alloc w.heap.size 39 [.int .u8 1,.int .u8 2,.int .i64 1,.string ⟨#[]⟩,.int .i64 0,.int .i64 0,.int .i64 0,.int .i64 0,.int .i64 0,.int .u8 0,.int .i64 0] rfl).alloc (w.heap.size+1) 39 [.int .u8 1,.int .u8 2,.int .i64 1,.string ⟨#[]⟩,.int .i64 0,.int .i64 0,.int .i64 0,.int .i64 0,.int .i64 0,.int .u8 0,.int .i64 0] (by simp))
 go_enter func137,ntmps137
 go_wp2_with fail
 generalize ((w.alloc (.cells #[.int .u8 1,.int .u8 2,.int .i64 1,.string ⟨#[]⟩,.int .i64 0,.int .i64 0,.int .i64 0,.int .i64 0,.int .i64 0,.int .u8 0,.int .i64 0] 39)).alloc (.cells #[.int .u8 1,.int .u8 2,.int .i64 1,.string ⟨#[]⟩,.int .i64 0,.int .i64 0,.int .i64 0,.int .i64 0,.int .i64 0,.int .u8 0,.int .i64 0] 39))=W2 at H1 ⊢
 refine cM (pP _) H1 fun w3 H5=>?_
 clear H1
 have F6:=sE H5
 go_wp2_with fail
 go_ret
 exact ⟨rfl,H5.out.bel⟩
theorem nG (t:List UInt8) (h:t.length≤256) (hp:t.all aj=true) (w:World) :
  Calls prog 137 #[.agg #[.int .u8 1,.int .u8 3,.int .i64 0,.string ⟨t.toArray⟩,.int .i64 0,.int .i64 0,.int .i64 0,.int .i64 0,.int .i64 0,.int .u8 0,.int .i64 0]] w fun e w'=>e=.returned (.int .i64 0)∧Below w.heap.size w w':=by
 have H1:=Lib.hid (((Ok.start w).alloc w.heap.size 39 [.int .u8 1,.int .u8 3,.int .i64 0,.string ⟨t.toArray⟩,.int .i64 0,.int .i64 0,.int .i64 0,.int .i64 0,.int .i64 0,.int .u8 0,.int .i64 0] rfl).alloc (w.heap.size+1) 39 [.int .u8 1,.int .u8 3,.int .i64 0,.string ⟨t.toArray⟩,.int .i64 0,.int .i64 0,.int .i64 0,.int .i64 0,.int .i64 0,.int .u8 0,.int .i64 0] (by simp))
 go_enter func137,ntmps137
 go_wp2_with fail
 generalize ((w.alloc (.cells #[.int .u8 1,.int .u8 3,.int .i64 0,.string ⟨t.toArray⟩,.int .i64 0,.int .i64 0,.int .i64 0,.int .i64 0,.int .i64 0,.int .u8 0,.int .i64 0] 39)).alloc (.cells #[.int .u8 1,.int .u8 3,.int .i64 0,.string ⟨t.toArray⟩,.int .i64 0,.int .i64 0,.int .i64 0,.int .i64 0,.int .i64 0,.int .u8 0,.int .i64 0] 39))=W2 at H1 ⊢
 refine cM (pO t h hp _) H1 fun w3 H5=>?_
 clear H1
 have F6:=sE H5
 go_wp2_with fail
 go_ret
 exact ⟨rfl,H5.out.bel⟩
theorem nA (c:Int) (h1:1≤c) (h2:c≤5) (w:World) :
  Calls prog 137 #[.agg #[.int .u8 1,.int .u8 4,.int .i64 c,.string ⟨#[]⟩,.int .i64 0,.int .i64 0,.int .i64 0,.int .i64 0,.int .i64 0,.int .u8 0,.int .i64 0]] w fun e w'=>e=.returned (.int .i64 0)∧Below w.heap.size w w':=by
 have H1:=Lib.hid (((Ok.start w).alloc w.heap.size 39 [.int .u8 1,.int .u8 4,.int .i64 c,.string ⟨#[]⟩,.int .i64 0,.int .i64 0,.int .i64 0,.int .i64 0,.int .i64 0,.int .u8 0,.int .i64 0] rfl).alloc (w.heap.size+1) 39 [.int .u8 1,.int .u8 4,.int .i64 c,.string ⟨#[]⟩,.int .i64 0,.int .i64 0,.int .i64 0,.int .i64 0,.int .i64 0,.int .u8 0,.int .i64 0] (by simp))
 go_enter func137,ntmps137
 go_wp2_with fail
 generalize ((w.alloc (.cells #[.int .u8 1,.int .u8 4,.int .i64 c,.string ⟨#[]⟩,.int .i64 0,.int .i64 0,.int .i64 0,.int .i64 0,.int .i64 0,.int .u8 0,.int .i64 0] 39)).alloc (.cells #[.int .u8 1,.int .u8 4,.int .i64 c,.string ⟨#[]⟩,.int .i64 0,.int .i64 0,.int .i64 0,.int .i64 0,.int .i64 0,.int .u8 0,.int .i64 0] 39))=W2 at H1 ⊢
 refine cM (kx c h1 (by omega) _) H1 fun w3 H5=>?_
 clear H1
 have F6:=sE H5
 go_wp2_with fail
 go_ret
 exact ⟨rfl,H5.out.bel⟩
theorem nF (c r:Int) (hc:aG ⟨c,r,c,r⟩=true) (w:World) :
  Calls prog 137 #[.agg #[.int .u8 2,.int .u8 0,.int .i64 0,.string ⟨#[]⟩,.int .i64 c,.int .i64 r,.int .i64 c,.int .i64 r,.int .i64 0,.int .u8 0,.int .i64 0]] w fun e w'=>e=.returned (.int .i64 0)∧Below w.heap.size w w':=by
 have HCE:=keep (bE hc)
 clear hc
 have H1:=Lib.hid (((Ok.start w).alloc w.heap.size 39 [.int .u8 2,.int .u8 0,.int .i64 0,.string ⟨#[]⟩,.int .i64 c,.int .i64 r,.int .i64 c,.int .i64 r,.int .i64 0,.int .u8 0,.int .i64 0] rfl).alloc (w.heap.size+1) 39 [.int .u8 2,.int .u8 0,.int .i64 0,.string ⟨#[]⟩,.int .i64 c,.int .i64 r,.int .i64 c,.int .i64 r,.int .i64 0,.int .u8 0,.int .i64 0] (by simp))
 go_enter func137,ntmps137
 go_wp2_with fail
 generalize ((w.alloc (.cells #[.int .u8 2,.int .u8 0,.int .i64 0,.string ⟨#[]⟩,.int .i64 c,.int .i64 r,.int .i64 c,.int .i64 r,.int .i64 0,.int .u8 0,.int .i64 0] 39)).alloc (.cells #[.int .u8 2,.int .u8 0,.int .i64 0,.string ⟨#[]⟩,.int .i64 c,.int .i64 r,.int .i64 c,.int .i64 r,.int .i64 0,.int .u8 0,.int .i64 0] 39))=W2 at H1 ⊢
 refine cM (bL c r c r _) H1 fun w3 H5=>?_
 rw [HCE.out]
 clear H1
 have F6:=sE H5
 go_wp2_with fail
 go_ret
 exact ⟨rfl,H5.out.bel⟩
theorem ki (a b c d:Int) (hc:aG ⟨a,b,c,d⟩=true) (hne:a≠c) (w:World) :
  Calls prog 137 #[.agg #[.int .u8 3,.int .u8 0,.int .i64 0,.string ⟨#[]⟩,.int .i64 a,.int .i64 b,.int .i64 c,.int .i64 d,.int .i64 0,.int .u8 0,.int .i64 0]] w fun e w'=>e=.returned (.int .i64 0)∧Below w.heap.size w w':=by
 have HCE:=keep (bE hc)
 clear hc
 have H1:=Lib.hid (((Ok.start w).alloc w.heap.size 39 [.int .u8 3,.int .u8 0,.int .i64 0,.string ⟨#[]⟩,.int .i64 a,.int .i64 b,.int .i64 c,.int .i64 d,.int .i64 0,.int .u8 0,.int .i64 0] rfl).alloc (w.heap.size+1) 39 [.int .u8 3,.int .u8 0,.int .i64 0,.string ⟨#[]⟩,.int .i64 a,.int .i64 b,.int .i64 c,.int .i64 d,.int .i64 0,.int .u8 0,.int .i64 0] (by simp))
 have hb:(a == c)=false:=by simpa using hne
 clear hne
 go_enter func137,ntmps137
 go_wp2_with fail
 generalize ((w.alloc (.cells #[.int .u8 3,.int .u8 0,.int .i64 0,.string ⟨#[]⟩,.int .i64 a,.int .i64 b,.int .i64 c,.int .i64 d,.int .i64 0,.int .u8 0,.int .i64 0] 39)).alloc (.cells #[.int .u8 3,.int .u8 0,.int .i64 0,.string ⟨#[]⟩,.int .i64 a,.int .i64 b,.int .i64 c,.int .i64 d,.int .i64 0,.int .u8 0,.int .i64 0] 39))=W2 at H1 ⊢
 refine cM (bL a b c d _) H1 fun w3 H5=>?_
 rw [HCE.out]
 clear H1
 have F6:=sE H5
 go_wp2_with fail
 go_ret
 exact ⟨rfl,H5.out.bel⟩
theorem kj (a b d:Int) (hc:aG ⟨a,b,a,d⟩=true) (hne:b≠d) (w:World) :
  Calls prog 137 #[.agg #[.int .u8 3,.int .u8 0,.int .i64 0,.string ⟨#[]⟩,.int .i64 a,.int .i64 b,.int .i64 a,.int .i64 d,.int .i64 0,.int .u8 0,.int .i64 0]] w fun e w'=>e=.returned (.int .i64 0)∧Below w.heap.size w w':=by
 have HCE:=keep (bE hc)
 clear hc
 have H1:=Lib.hid (((Ok.start w).alloc w.heap.size 39 [.int .u8 3,.int .u8 0,.int .i64 0,.string ⟨#[]⟩,.int .i64 a,.int .i64 b,.int .i64 a,.int .i64 d,.int .i64 0,.int .u8 0,.int .i64 0] rfl).alloc (w.heap.size+1) 39 [.int .u8 3,.int .u8 0,.int .i64 0,.string ⟨#[]⟩,.int .i64 a,.int .i64 b,.int .i64 a,.int .i64 d,.int .i64 0,.int .u8 0,.int .i64 0] (by simp))
 have hb:(b == d)=false:=by simpa using hne
 clear hne
 go_enter func137,ntmps137
 go_wp2_with fail
 generalize ((w.alloc (.cells #[.int .u8 3,.int .u8 0,.int .i64 0,.string ⟨#[]⟩,.int .i64 a,.int .i64 b,.int .i64 a,.int .i64 d,.int .i64 0,.int .u8 0,.int .i64 0] 39)).alloc (.cells #[.int .u8 3,.int .u8 0,.int .i64 0,.string ⟨#[]⟩,.int .i64 a,.int .i64 b,.int .i64 a,.int .i64 d,.int .i64 0,.int .u8 0,.int .i64 0] 39))=W2 at H1 ⊢
 refine cM (bL a b a d _) H1 fun w3 H5=>?_
 rw [HCE.out]
 clear H1
 have F6:=sE H5
 go_wp2_with fail
 go_ret
 exact ⟨rfl,H5.out.bel⟩
theorem l8 (fn k:Nat) (h1:1≤fn) (h2:fn≤50) (hk1:(arS fn).1≤k) (hk2:k≤(arS fn).2) (w:World) :
  Calls prog 137 #[.agg #[.int .u8 7,.int .u8 0,.int .i64 0,.string ⟨#[]⟩,.int .i64 0,.int .i64 0,.int .i64 0,.int .i64 0,.int .i64 0,.int .u8 (fn:Nat),.int .i64 (k:Nat)]] w fun e w'=>e=.returned (.int .i64 0)∧Below w.heap.size w w':=by
 have g1:¬ ((k:Nat):Int)<((arS fn).1:Nat):=by omega
 have g2:¬ ((k:Nat):Int)>((arS fn).2:Nat):=by omega
 have H1:=Lib.hid (((Ok.start w).alloc w.heap.size 39 [.int .u8 7,.int .u8 0,.int .i64 0,.string ⟨#[]⟩,.int .i64 0,.int .i64 0,.int .i64 0,.int .i64 0,.int .i64 0,.int .u8 (fn:Nat),.int .i64 (k:Nat)] rfl).var (w.heap.size+1) 39 [.int .u8 7,.int .u8 0,.int .i64 0,.string ⟨#[]⟩,.int .i64 0,.int .i64 0,.int .i64 0,.int .i64 0,.int .i64 0,.int .u8 0,.int .i64 0] (by simp))
 go_enter func137,ntmps137
 go_wp2_with fail
 generalize ((w.alloc (.cells #[.int .u8 7,.int .u8 0,.int .i64 0,.string ⟨#[]⟩,.int .i64 0,.int .i64 0,.int .i64 0,.int .i64 0,.int .i64 0,.int .u8 (fn:Nat),.int .i64 (k:Nat)] 39)).alloc (.cells #[.int .u8 7,.int .u8 0,.int .i64 0,.string ⟨#[]⟩,.int .i64 0,.int .i64 0,.int .i64 0,.int .i64 0,.int .i64 0,.int .u8 0,.int .i64 0] 39))=W2 at H1 ⊢
 have F3:=sE H1
 go_region
 clear F3
 have hfar:∀ x∈[ac (w.heap.size) 39 [.int .u8 7,.int .u8 0,.int .i64 0,.string ⟨#[]⟩,.int .i64 0,.int .i64 0,.int .i64 0,.int .i64 0,.int .i64 0,.int .u8 (fn:Nat),.int .i64 (k:Nat)]],x.far (some (w.heap.size+1)):=by
  intro x hx
  simp at hx
  subst hx
  show some w.heap.size≠some (w.heap.size+1)
  simp
 have H5:=Lib.hid (((H1.out.set_ (i:=9) (u:=.int .u8 (fn:Nat)) (by omega) hfar).set_ (i:=10) (u:=.int .i64 (k:Nat)) (by omega) hfar).drew)
 clear hfar H1
 have H6:Hid (Ok w [af (w.heap.size+1) 39 [.int .u8 7,.int .u8 0,.int .i64 0,.string ⟨#[]⟩,.int .i64 0,.int .i64 0,.int .i64 0,.int .i64 0,.int .i64 0,.int .u8 (fn:Nat),.int .i64 (k:Nat)],ac (w.heap.size) 39 [.int .u8 7,.int .u8 0,.int .i64 0,.string ⟨#[]⟩,.int .i64 0,.int .i64 0,.int .i64 0,.int .i64 0,.int .i64 0,.int .u8 (fn:Nat),.int .i64 (k:Nat)]] (((W2.setCell ⟨w.heap.size+1,9,none⟩ (.int .u8 (fn:Nat))).setCell ⟨w.heap.size+1,10,none⟩ (.int .i64 (k:Nat))).drew)):=H5
 clear H5
 generalize ((W2.setCell ⟨w.heap.size+1,9,none⟩ (.int .u8 (fn:Nat))).setCell ⟨w.heap.size+1,10,none⟩ (.int .i64 (k:Nat))).drew=W9 at H6 ⊢
 have F4:=sE H6
 go_wp2_with fail
 refine (cw fn _ h1 h2).mono ?_
 rintro e w5 ⟨rfl,hw⟩
 obtain rfl:W9=w5:=hw.symm
 go_wp2_with fail
 go_ret
 exact ⟨rfl,H6.out.bel⟩
def aL (n:Nd):Prop :=
 (∃ vk vn vt,n=⟨1,vk,vn,vt,R4.zero,0,0,0⟩∧eW vk vn vt)∨(∃ r,n=eu r∧aG r=true∧r.c1=r.c2∧r.r1=r.r2)∨(∃ r,n=cj r∧aG r=true∧¬ (r.c1=r.c2∧r.r1=r.r2)) ∨
 n=fz∨n=dt∨(∃ op,n=cN op∧1≤op∧op≤12)∨∃ fn k,n=da fn k∧1≤fn∧fn≤50∧(arS fn).1≤k∧k≤(arS fn).2
theorem mY (n:Nd) (h:aL n) (w:World) :
  Calls prog 137 #[ndA n] w fun e w'=>e=.returned (.int .i64 0)∧Below w.heap.size w w':=by
 rcases h with ⟨vk,vn,vt,rfl,hv⟩ | ⟨⟨a,b,c,d⟩,rfl,hc,h1,h2⟩ | ⟨⟨a,b,c,d⟩,rfl,hc,hne⟩ | rfl | rfl | ⟨op,rfl,h1,h2⟩ | ⟨fn,k,rfl,h1,h2,h3,h4⟩
 ·rcases hv with ⟨rfl,h1,rfl⟩ | ⟨rfl,h1 | h1,rfl⟩ | ⟨rfl,rfl,h1,h2⟩ | ⟨rfl,⟨h1,h2⟩,rfl⟩
  ·exact nC vn h1 w
  ·subst h1; exact pY w
  ·subst h1; exact nH w
  ·exact nG vt h1 h2 w
  exact nA vn h1 h2 w
 ·simp only [] at h1 h2
  subst h1 h2
  exact nF a b hc w
 ·simp only [] at hne
  by_cases h1:a=c
  ·subst h1
   exact kj a b d hc (fun h=>hne ⟨rfl,h⟩) w
  exact ki a b c d hc h1 w
 ·exact nB w
 ·exact nD w
 ·exact ny op h1 h2 w
 exact l8 fn k h1 h2 h3 h4 w
