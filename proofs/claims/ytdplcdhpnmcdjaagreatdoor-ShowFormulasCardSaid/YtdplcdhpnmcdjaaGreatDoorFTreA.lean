/- The contract of tree.Function. The contract of tree.names and tree.Function. The contracts of what parse.Formula defers. Contracts of glyph.Check, val.Check and tree.fields, at what a formula may hold. -/
import Derived.Test.YtdplcdhpnmcdjaaGreatDoorFParB
import Derived.Test.YtdplcdhpnmcdjaaGreatDoorFTg
import Derived.Defers
import Derived.Recover
import Derived.Test.YtdplcdhpnmcdjaaGreatDoorFLexI
import Derived.Test.YtdplcdhpnmcdjaaGreatDoorFVal
import Derived.Test.YtdplcdhpnmcdjaaGreatDoorFParA
import Derived.Test.YtdplcdhpnmcdjaaGreatDoorFAddP6
import Derived.Deep.DeepCutAuto
namespace Go.Proofs.YtdplcdhpnmcdjaaGreatDoor
set_option maxRecDepth 100000
open Go.RowKit Go.Proofs.Tryz
def qf (xs:List (List UInt8)) (x:List UInt8):Int:=match xs.findIdx? (· == x) with
 | some i=>(i:Int)
 | none=>-1
theorem xo (xs:List (List UInt8)) (x:List UInt8) (k:Nat) (hk:k<xs.length) (hb:∀ y∈xs.take k,y≠x) (h:xs[k]=x):qf xs x=(k:Int):=by
 have hf:xs.findIdx? (· == x)=some k:=by
  rw [List.findIdx?_eq_some_iff_getElem]
  refine ⟨hk,by simpa using h,fun j hj => ?_⟩
  have:=hb xs[j] (by rw [List.mem_take_iff_getElem]; exact ⟨j,by omega,rfl⟩)
  simpa using this
 unfold qf
 rw [hf]
theorem xp (xs:List (List UInt8)) (x:List UInt8) (hb:∀ y∈xs,y≠x):qf xs x=-1:=by
 have hf:xs.findIdx? (· == x)=none:=by
  rw [List.findIdx?_eq_none_iff]
  intro y hy
  simpa using hb y hy
 unfold qf
 rw [hf]
theorem qg (xs:List (List UInt8)) (x:List UInt8) (b c:Nat) (w:World) (hl:xs.length≤1000) (hc:∀ i (h:i<xs.length),w.cell? ⟨b,i,none⟩=some (.string ⟨xs[i].toArray⟩)) :
  Calls prog 257 #[.slice (some ⟨b,0,none⟩) xs.length c,.string ⟨x.toArray⟩] w fun e w'=>e=.returned (.int .i64 (qf xs x))∧w'=w:=by
 have HC:=keep hc
 clear hc
 obtain ⟨n,hn⟩:=ex (xs.length)
 rw [hn] at hl ⊢
 have HN:=keep hn
 clear hn
 go_enter func257,ntmps257
 go_wp2_with fail
 go_loopw [8] (fun iv wr=>∃ k:Nat,k≤n∧iv=.int .i64 (k:Int)∧bh (∀ y∈xs.take k,y≠x)∧wr=w) (fun iv _=>n - (intOf iv).toNat)
 case atStart=>exact ⟨0,Nat.zero_le _,rfl,keep (by simp),rfl⟩
 case round =>
  obtain ⟨k,hk,rfl,HK,hwr⟩:=hrel
  obtain rfl:w=wr:=hwr.symm
  by_cases hlt:(k:Int)<n
  ·have hkn:k<xs.length:=by rw [HN.out]; omega
   have HKN:=keep hkn
   clear hkn
   have hcell:=HC.out k HKN.out
   obtain ⟨y,hy⟩:=ex (xs[k]'HKN.out)
   rw [hy] at hcell
   have HY:=keep hy
   clear hy
   by_cases hxy:y=x
   ·subst hxy
    have HI:=keep (xo xs y k HKN.out HK.out HY.out)
    go_wp2_with fail
    go_ret
    exact ⟨by rw [HI.out]; rfl,rfl⟩
   have HNE:=keep hxy
   have hb:(x == y)=false:=by simpa using fun e=>hxy e.symm
   clear hxy
   go_wp2_with fail
   go_roundw
   case rel =>
    refine ⟨k+1,by omega,by go_num,keep fun z hz => ?_,by first | trivial | rfl⟩
    rw [List.take_succ_eq_append_getElem HKN.out] at hz
    rcases List.mem_append.1 hz with hz | hz
    ·exact HK.out z hz
    simp at hz
    rw [hz]
    rw [HY.out]
    exact HNE.out
   case measure=>simp [intOf]; omega
  have hke:k=n:=by omega
  have HI:=keep (xp xs x fun y hy=>HK.out y (by rw [List.take_of_length_le (by rw [HN.out]; omega)]; exact hy))
  clear hke
  go_wp2_with fail
  go_ret
  exact ⟨by rw [HI.out]; rfl,rfl⟩
set_option maxRecDepth 100000
set_option maxHeartbeats 8000000
def au:List Value:=dk.map fun x=>.string ⟨x.toArray⟩
theorem mA:(au.toArray.all (·.oneCell'))=true:=by kernel_rfl
def gV:Array Value:=#[.string ⟨#[]⟩,.string ⟨#[]⟩,.string ⟨#[]⟩,.string ⟨#[]⟩,.string ⟨#[]⟩,.string ⟨#[]⟩,.string ⟨#[]⟩,.string ⟨#[]⟩,.string ⟨#[]⟩,.string ⟨#[]⟩,.string ⟨#[]⟩,.string ⟨#[]⟩,.string ⟨#[]⟩,.string ⟨#[]⟩,.string ⟨#[]⟩,.string ⟨#[]⟩,.string ⟨#[]⟩,.string ⟨#[]⟩,.string ⟨#[]⟩,.string ⟨#[]⟩,.string ⟨#[]⟩,.string ⟨#[]⟩,.string ⟨#[]⟩,.string ⟨#[]⟩,.string ⟨#[]⟩,.string ⟨#[]⟩,.string ⟨#[]⟩,.string ⟨#[]⟩,.string ⟨#[]⟩,.string ⟨#[]⟩,.string ⟨#[]⟩,.string ⟨#[]⟩,.string ⟨#[]⟩,.string ⟨#[]⟩,.string ⟨#[]⟩,.string ⟨#[]⟩,.string ⟨#[]⟩,.string ⟨#[]⟩,.string ⟨#[]⟩,.string ⟨#[]⟩,.string ⟨#[]⟩,.string ⟨#[]⟩,.string ⟨#[]⟩,.string ⟨#[]⟩,.string ⟨#[]⟩,.string ⟨#[]⟩,.string ⟨#[]⟩,.string ⟨#[]⟩,.string ⟨#[]⟩,.string ⟨#[]⟩]
theorem l3:gV.size=au.toArray.size:=by kernel_rfl
theorem iP:(prog.info? 173).map (·.size)=some au.toArray.size:=by kernel_rfl
theorem rQ (w:World) (t:TypeId) (old V:Array Value):((w.alloc (.cells old t)).setRow w.heap.size V).heap[w.heap.size]?=some (.cells V t (0,0)):=by
 exact setRow_heap (w.alloc (.cells old t)) w.heap.size old V t (0,0) (heap_alloc_new w _)
theorem mH (w:World) (t:TypeId) (old V:Array Value):Below w.heap.size w ((w.alloc (.cells old t)).setRow w.heap.size V) :=
 ⟨rfl,rfl,rfl,by simp,fun i hi=>by
  unfold World.setRow
  simp only [Array.getElem?_modify]
  rw [if_neg (by omega)]
  exact Below.heap_alloc w _ i hi⟩
theorem lW (w:World) :
  Calls prog 144 #[] w fun e w'=>e=.returned (.agg au.toArray)∧Below w.heap.size w w':=by
 go_enter func144,ntmps144
 go_upto_region 1 with fail
 change Code.wp _ _ _ _ (w.alloc (.cells gV _))
 go_wp2_with (first | (refine wpList_build rfl _ _ rfl (by kernel_rfl) ?_) | (refine wpList_store_row rfl _ _ _ rfl w.heap.size au.toArray rfl (by kernel_rfl) 173 gV (heap_alloc_new _ _) iP l3 mA ?_))
 refine bodyPost_ret (v:=.agg au.toArray) ?_ rfl ⟨rfl,mH _ _ _ _⟩
 exact results_cell_row rfl _ _ w.heap.size 173 au.toArray (0,0) _ rfl (rQ _ _ _ _) underlying173 rfl iP
theorem Aj (x:List UInt8):qf dk x=if fnS x=0 then -1 else ((fnS x:Nat):Int) - 1:=by
 unfold qf fnS
 cases dk.findIdx? (· == x) with
 | none=>rfl
 | some i=>simp
theorem uA (x:List UInt8):fnS x≤50:=by
 unfold fnS
 split
 ·rename_i i h
  rw [List.findIdx?_eq_some_iff_getElem] at h
  obtain ⟨h1,_⟩:=h
  have:dk.length=50:=rfl
  omega
 omega
def fnE (x:List UInt8):Int:=if fnS x=0 then 6 else 0
theorem d7 (x:List UInt8) (w:World) :
  Calls prog 245 #[.string ⟨x.toArray⟩] w fun e w'=>e=.returned (.tuple #[.int .u8 (fnS x:Nat),.int .i64 (fnE x)])∧Below w.heap.size w w':=by
 have HX:=keep (Aj x)
 have hle:=uA x
 have HE:=keep (show (fnS x=0→fnE x=6)∧(fnS x≠0→fnE x=0) from ⟨fun h=>if_pos h,fun h=>if_neg h⟩)
 go_enter func245,ntmps245
 go_wp2_with fail
 refine (lW _).mono ?_
 rintro e w1 ⟨rfl,hb1⟩
 have hrow:=rQ w1 173 gV au.toArray
 have hbl:=mH w1 173 gV au.toArray
 obtain ⟨W1,hW1⟩:=ex ((w1.alloc (.cells gV 173)).setRow w1.heap.size au.toArray)
 rw [hW1] at hrow hbl
 have hcs:∀ i (h:i<dk.length),W1.cell? ⟨w1.heap.size,i,none⟩=some (.string ⟨dk[i].toArray⟩):=by
  intro i h
  rw [cell_of_row W1 w1.heap.size i _ _ _ hrow]
  unfold au
  simp [h]
 have HC:=keep hcs
 have HB:=Lib.hid (am hb1 hbl)
 clear hcs hrow hbl hb1
 have HW:=Lib.hid hW1
 clear hW1
 go_wp2_with (refine wpList_store_row rfl _ _ _ rfl w1.heap.size au.toArray rfl rfl 173 gV (heap_alloc_new _ _) iP l3 mA ?_; change wpList _ _ _ _ _ ((w1.alloc (.cells gV 173)).setRow w1.heap.size au.toArray); rw [HW.out])
 refine (qg dk x w1.heap.size 50 W1 (by decide) HC.out).mono ?_
 rintro e w2 ⟨rfl,hw2⟩
 obtain rfl:W1=w2:=hw2.symm
 rw [HX.out]
 by_cases h0:fnS x=0
 ·rw [if_pos h0]
  have HF:=keep (show fnS x=0∧fnE x=6 from ⟨h0,HE.out.1 h0⟩)
  clear h0
  go_wp2_with fail
  exact bodyPost_ret (v:=.tuple #[.int .u8 0,.int .i64 6]) (by simp [results,results245,go_sem]) rfl ⟨by rw [HF.out.1,HF.out.2]; rfl,HB.out⟩
 rw [if_neg h0]
 have HF:=keep (HE.out.2 h0)
 obtain ⟨n,hn⟩:=ex (fnS x)
 rw [hn] at h0 hle ⊢
 have h1:¬ (n:Int) - 1<0:=by omega
 have h2:(n:Int) - 1+1=n:=by omega
 have h3:(n:Int) % 256=n:=by omega
 have HN:=keep hn
 clear hn
 go_wp2_with fail
 exact bodyPost_ret (v:=.tuple #[.int .u8 (n:Int),.int .i64 0]) (by simp [results,results245,go_sem]) rfl ⟨by rw [HF.out,HN.out],HB.out⟩
def rZ (fn i:Nat):Int:=if (arS fn).2≤i then 3 else 0
theorem d8 (fn:Nat) (w:World) :
  Calls prog 187 #[.int .u8 (fn:Nat)] w fun e w'=>e=.returned (.bool (decide (46≤fn∧fn≤50)))∧w'=w:=by
 by_cases h:46≤fn
 ·have g1:(46:Int)≤fn:=by omega
  go_enter func187,ntmps187
  go_wp2_with fail
  go_ret
  exact ⟨by show Ending.returned (Value.bool (decide ((fn:Int)≤50)))=_; congr 2; rw [decide_eq_decide]; omega,rfl⟩
 have g1:¬ (46:Int)≤fn:=by omega
 go_enter func187,ntmps187
 go_wp2_with fail
 go_ret
 exact ⟨by first | rfl | (rw [decide_eq_false (by omega)]; rfl),rfl⟩
theorem Bd (x:Nat):((x:Int) == 1)=(x == 1):=by rw [Bool.eq_iff_iff]; simp; omega
theorem r9 (fn i:Nat) (h:(arS fn).2≤i):bZ fn i=false∧rZ fn i=3:=⟨by unfold bZ; rw [if_pos h],if_pos h⟩
theorem pC (fn i:Nat) (h:¬ (arS fn).2≤i) (hf:fn=9∨fn=10∨fn=11∨fn=12∨fn=14∨fn=15∨fn=16∨fn=17):bZ fn i=true:=by
 unfold bZ
 rw [if_neg h,if_pos (by simpa using hf)]
theorem r8 (fn i:Nat) (h:¬ (arS fn).2≤i) (hf:fn=44):bZ fn i=(i == 1):=by
 subst hf
 unfold bZ
 rw [if_neg h,if_neg (by decide),if_pos rfl]
theorem pD (fn i:Nat) (h:¬ (arS fn).2≤i) (hf:fn=18∨fn=19∨fn=45∨fn=43∨fn=13):bZ fn i=(i == 0):=by
 unfold bZ
 rw [if_neg h,if_neg (by simp; omega),if_neg (by omega),if_pos (by simpa using hf)]
theorem ke (fn i:Nat) (h:¬ (arS fn).2≤i) (hf:¬ (fn=9∨fn=10∨fn=11∨fn=12∨fn=14∨fn=15∨fn=16∨fn=17∨fn=44∨fn=18∨fn=19∨fn=45∨fn=43∨fn=13)):bZ fn i=decide (46≤fn∧fn≤50):=by
 unfold bZ
 rw [if_neg h,if_neg (by simp; omega),if_neg (by omega),if_neg (by simp; omega)]
theorem j3 (fn i:Nat) (w:World) (h1:1≤fn) (h2:fn≤50) :
  Calls prog 186 #[.int .u8 (fn:Nat),.int .i64 (i:Nat)] w fun e w'=>e=.returned (.tuple #[.bool (bZ fn i),.int .i64 (rZ fn i)])∧w'=w:=by
 by_cases hm:(arS fn).2≤i
 ·have HM:=keep (r9 fn i hm)
  have hmi:(((arS fn).2:Nat):Int)≤(i:Int):=by omega
  clear hm
  go_enter func186,ntmps186
  go_wp2_with fail
  refine (cX fn _ h1 h2).mono ?_
  rintro e w' ⟨rfl,hw⟩
  obtain rfl:w=w':=hw.symm
  go_wp2_with fail
  exact bodyPost_ret (v:=.tuple #[.bool false,.int .i64 3]) (by simp [results,results186,go_sem]) rfl ⟨by rw [HM.out.1,HM.out.2],rfl⟩
 have HE:=keep (show rZ fn i=0 from if_neg hm)
 have HM:=keep hm
 have hmi:¬ (((arS fn).2:Nat):Int)≤(i:Int):=by omega
 clear hm
 go_enter func186,ntmps186
 go_wp2_with fail
 refine (cX fn _ h1 h2).mono ?_
 rintro e w' ⟨rfl,hw⟩
 obtain rfl:w=w':=hw.symm
 go_wp2_with fail
 all_goals simp only [beq_iff_eq,beq_eq_false_iff_ne,ne_eq] at *
 all_goals
  first
  | exact bodyPost_ret (v:=.tuple #[.bool true,.int .i64 0]) (by simp [results,results186,go_sem]) rfl ⟨by rw [HE.out,pC fn i HM.out (by omega)],rfl⟩
  | exact bodyPost_ret (v:=.tuple #[.bool ((i:Int) == 1),.int .i64 0]) (by simp [results,results186,go_sem]) rfl ⟨by rw [HE.out,r8 fn i HM.out (by omega),Bd],rfl⟩
  | exact bodyPost_ret (v:=.tuple #[.bool ((i:Int) == 0),.int .i64 0]) (by simp [results,results186,go_sem]) rfl ⟨by rw [HE.out,pD fn i HM.out (by omega),Bc],rfl⟩
  | skip
 have HA:=keep (ke fn i HM.out (by omega))
 refine (d8 fn _).mono ?_
 rintro e w' ⟨rfl,hw⟩
 obtain rfl:w=w':=hw.symm
 rw [← HA.out]
 go_wp2_with fail
 exact bodyPost_ret (v:=.tuple #[.bool (bZ fn i),.int .i64 0]) (by simp [results,results186,go_sem]) rfl ⟨by rw [HE.out],rfl⟩
set_option maxRecDepth 100000
set_option maxHeartbeats 1000000
theorem kg (w0:World) (tb ab eb:Nat) (v1 v2 v3:Value) (a c:Int) (w:World) (ht:w0.heap.size≤tb) (ha:w0.heap.size≤ab) (he:w0.heap.size≤eb) (h12:tb≠ab) (h13:tb≠eb) (h23:ab≠eb) (h:Ok w0 [ah tb 22 [v1],ah ab 3 [v2],ah eb 24 [v3]] w) :
  CallsD prog 62 #[.pointer (some ⟨tb,0,none⟩),.pointer (some ⟨ab,0,none⟩),.pointer (some ⟨eb,0,none⟩)] (.panicking (pU a c)) w fun e u' w' =>
   e=.returned (.tuple #[])∧u'=.panicking [{ v:=.iface 92 (.agg #[.int .i64 a,.int .i64 c]),recovered:=true }] ∧
    Ok w0 [ah tb 22 [.slice none 0 0],ah ab 3 [.int .i64 a],ah eb 24 [.int .i64 c]] w':=by
 have hta:∀ w:World,(Instr.typeAssert (.iface 92 (.agg #[.int .i64 a,.int .i64 c])) 20 92 true).run prog w=.ok (.tuple #[.agg #[.int .i64 a,.int .i64 c],.bool true]) w:=fun _=>by kernel_rfl
 have H:=Lib.hid h
 clear h
 have F:=H.out.sees
 simp only [sees,ah,ac] at F
 obtain ⟨⟨⟨z0,f0⟩,c0,-⟩,⟨⟨z1,f1⟩,c1,-⟩,⟨⟨z2,f2⟩,c2,-⟩,-⟩:=F
 refine callsD_of_wpS func62 rfl fun c₀ cs hu => ?_
 apply wpS_seq
 apply wpS_region
 simp [wpOpsS,go_sem,recoverD,hu,ntmps62,Exit.thenS,pU]
 refine wpS_of_wp ?_
 go_wp2_with fail
 have n1:w.heap.size≠tb:=by omega
 have n2:tb≠w.heap.size:=by omega
 have HA:=Lib.hid (H.out.alloc w.heap.size 92 [.int .i64 a,.int .i64 c] rfl)
 clear c0 z0 f0 c1 z1 f1 c2 z2 f2 H
 generalize (w.alloc (.cells #[.int .i64 a,.int .i64 c] 92))=wa at HA ⊢
 generalize w.heap.size=ob at HA n1 n2 ⊢
 have F:=HA.out.sees
 simp only [sees,ah,af,ac,Nat.reduceAdd] at F
 obtain ⟨⟨z3,c3,c4,-⟩,⟨⟨z0,f0⟩,c0,-⟩,⟨⟨z1,f1⟩,c1,-⟩,⟨⟨z2,f2⟩,c2,-⟩,-⟩:=F
 have HE:=Lib.hid (((((((HA.out.drop [ah tb 22 [v1],ah ab 3 [v2],ah eb 24 [v3]] (by simp)).set_ (i:=0) (u:=.slice none 0 0) ht (by simp [ah]; omega)).drop
  [ah ab 3 [v2],ah tb 22 [.slice none 0 0],ah eb 24 [v3]] (by simp)).set_ (i:=0) (u:=.int .i64 a) ha (by simp [ah]; omega)).drop
  [ah eb 24 [v3],ah tb 22 [.slice none 0 0],ah ab 3 [.int .i64 a]] (by simp)).set_ (i:=0) (u:=.int .i64 c) he (by simp [ah]; omega)).drop
  [ah tb 22 [.slice none 0 0],ah ab 3 [.int .i64 a],ah eb 24 [.int .i64 c]] (by simp)).drew
 go_region
 all_goals go_wp2_with fail
 all_goals exact ⟨rfl,_,rfl,_,results_none rfl _ _ _,rfl,rfl,HE.out⟩
theorem kY (tb ab eb:Nat) (w:World) :
  CallsD prog 62 #[.pointer (some ⟨tb,0,none⟩),.pointer (some ⟨ab,0,none⟩),.pointer (some ⟨eb,0,none⟩)] .returning w fun e u' w'=>e=.returned (.tuple #[])∧u'=.returning∧w'=w:=by
 refine callsD_of_wpS func62 rfl fun c₀ cs hu => ?_
 apply wpS_seq
 apply wpS_region
 simp [wpOpsS,go_sem,recoverD,hu,ntmps62,Exit.thenS]
 refine wpS_of_wp ?_
 go_wp2_with fail
 cases c₀
 simp only [] at hu
 subst hu
 exact ⟨rfl,_,rfl,_,results_none rfl _ _ _,rfl,rfl,rfl⟩
set_option maxRecDepth 100000
set_option maxHeartbeats 4000000
theorem lq (s:ByteArray) (w:World) (hs:s.size≤256) (hp:s.data.toList.all ay=true) :
  Calls prog 71 #[.string s] w fun e w'=>e=.returned (.int .i64 0)∧Below w.heap.size w w':=by
 have hi:¬ (s.size:Int)>256:=by omega
 have HP:=keep hp
 clear hp
 go_enter func71,ntmps71
 go_wp2_with fail
 refine (ef s _ (by omega)).mono ?_
 rintro e w1 ⟨rfl,hb⟩
 rw [HP.out]
 have HB:=Lib.hid hb
 clear hb
 go_wp2_with fail
 go_ret
 exact ⟨rfl,HB.out⟩
def dD (vk:Nat) (vn:Int) (vt:List UInt8):Prop :=
 (vk=1∧0≤vn∧vt=[])∨(vk=2∧(vn=0∨vn=1)∧vt=[])∨(vk=3∧vn=0∧vt.length≤256∧vt.all ay=true)∨(vk=4∧(1≤vn∧vn≤5)∧vt=[])
theorem sq (n:Int) (h:0≤n) (w:World) :
  Calls prog 37 #[.agg #[.int .u8 1,.int .i64 n,.string ⟨#[]⟩]] w fun e w'=>e=.returned (.int .i64 0)∧Below w.heap.size w w':=by
 have H1:=Lib.hid ((Ok.start w).alloc w.heap.size 35 [.int .u8 1,.int .i64 n,.string ⟨#[]⟩] rfl)
 have hne:(n != -9223372036854775808)=true:=by simp; omega
 go_enter func37,ntmps37
 go_wp2_with fail
 generalize (w.alloc (.cells #[.int .u8 1,.int .i64 n,.string ⟨#[]⟩] 35))=W2 at H1 ⊢
 go_ret
 exact ⟨rfl,H1.out.bel⟩
theorem tZ  (w:World) :
  Calls prog 37 #[.agg #[.int .u8 2,.int .i64 0,.string ⟨#[]⟩]] w fun e w'=>e=.returned (.int .i64 0)∧Below w.heap.size w w':=by
 have H1:=Lib.hid ((Ok.start w).alloc w.heap.size 35 [.int .u8 2,.int .i64 0,.string ⟨#[]⟩] rfl)
 go_enter func37,ntmps37
 go_wp2_with fail
 generalize (w.alloc (.cells #[.int .u8 2,.int .i64 0,.string ⟨#[]⟩] 35))=W2 at H1 ⊢
 go_ret
 exact ⟨rfl,H1.out.bel⟩
theorem ss  (w:World) :
  Calls prog 37 #[.agg #[.int .u8 2,.int .i64 1,.string ⟨#[]⟩]] w fun e w'=>e=.returned (.int .i64 0)∧Below w.heap.size w w':=by
 have H1:=Lib.hid ((Ok.start w).alloc w.heap.size 35 [.int .u8 2,.int .i64 1,.string ⟨#[]⟩] rfl)
 go_enter func37,ntmps37
 go_wp2_with fail
 generalize (w.alloc (.cells #[.int .u8 2,.int .i64 1,.string ⟨#[]⟩] 35))=W2 at H1 ⊢
 go_ret
 exact ⟨rfl,H1.out.bel⟩
theorem sr (t:List UInt8) (h:t.length≤256) (hp:t.all ay=true) (w:World) :
  Calls prog 37 #[.agg #[.int .u8 3,.int .i64 0,.string ⟨t.toArray⟩]] w fun e w'=>e=.returned (.int .i64 0)∧Below w.heap.size w w':=by
 have H1:=Lib.hid ((Ok.start w).alloc w.heap.size 35 [.int .u8 3,.int .i64 0,.string ⟨t.toArray⟩] rfl)
 go_enter func37,ntmps37
 go_wp2_with fail
 generalize (w.alloc (.cells #[.int .u8 3,.int .i64 0,.string ⟨t.toArray⟩] 35))=W2 at H1 ⊢
 refine cM (lq ⟨t.toArray⟩ _ h hp) H1 fun w3 H5=>?_
 clear H1
 have F6:=sE H5
 go_wp2_with fail
 go_ret
 exact ⟨rfl,H5.out.bel⟩
theorem pZ  (w:World) :
  Calls prog 137 #[.agg #[.int .u8 4,.int .u8 0,.int .i64 0,.string ⟨#[]⟩,.int .i64 0,.int .i64 0,.int .i64 0,.int .i64 0,.int .i64 0,.int .u8 0,.int .i64 0]] w fun e w'=>e=.returned (.int .i64 0)∧Below w.heap.size w w':=by
 have H1:=Lib.hid ((Ok.start w).alloc w.heap.size 39 [.int .u8 4,.int .u8 0,.int .i64 0,.string ⟨#[]⟩,.int .i64 0,.int .i64 0,.int .i64 0,.int .i64 0,.int .i64 0,.int .u8 0,.int .i64 0] rfl)
 go_enter func137,ntmps137
 go_wp2_with fail
 generalize (w.alloc (.cells #[.int .u8 4,.int .u8 0,.int .i64 0,.string ⟨#[]⟩,.int .i64 0,.int .i64 0,.int .i64 0,.int .i64 0,.int .i64 0,.int .u8 0,.int .i64 0] 39))=W2 at H1 ⊢
 go_ret
 exact ⟨rfl,(H1.out.alloc_obj _).bel⟩
theorem p6  (w:World) :
  Calls prog 137 #[.agg #[.int .u8 5,.int .u8 0,.int .i64 0,.string ⟨#[]⟩,.int .i64 0,.int .i64 0,.int .i64 0,.int .i64 0,.int .i64 0,.int .u8 0,.int .i64 0]] w fun e w'=>e=.returned (.int .i64 0)∧Below w.heap.size w w':=by
 have H1:=Lib.hid ((Ok.start w).alloc w.heap.size 39 [.int .u8 5,.int .u8 0,.int .i64 0,.string ⟨#[]⟩,.int .i64 0,.int .i64 0,.int .i64 0,.int .i64 0,.int .i64 0,.int .u8 0,.int .i64 0] rfl)
 go_enter func137,ntmps137
 go_wp2_with fail
 generalize (w.alloc (.cells #[.int .u8 5,.int .u8 0,.int .i64 0,.string ⟨#[]⟩,.int .i64 0,.int .i64 0,.int .i64 0,.int .i64 0,.int .i64 0,.int .u8 0,.int .i64 0] 39))=W2 at H1 ⊢
 go_ret
 exact ⟨rfl,(H1.out.alloc_obj _).bel⟩
theorem pX (op:Int) (h1:1≤op) (h2:op≤12) (w:World) :
  Calls prog 137 #[.agg #[.int .u8 6,.int .u8 0,.int .i64 0,.string ⟨#[]⟩,.int .i64 0,.int .i64 0,.int .i64 0,.int .i64 0,.int .i64 op,.int .u8 0,.int .i64 0]] w fun e w'=>e=.returned (.int .i64 0)∧Below w.heap.size w w':=by
 have H1:=Lib.hid ((Ok.start w).alloc w.heap.size 39 [.int .u8 6,.int .u8 0,.int .i64 0,.string ⟨#[]⟩,.int .i64 0,.int .i64 0,.int .i64 0,.int .i64 0,.int .i64 op,.int .u8 0,.int .i64 0] rfl)
 go_enter func137,ntmps137
 go_wp2_with fail
 generalize (w.alloc (.cells #[.int .u8 6,.int .u8 0,.int .i64 0,.string ⟨#[]⟩,.int .i64 0,.int .i64 0,.int .i64 0,.int .i64 0,.int .i64 op,.int .u8 0,.int .i64 0] 39))=W2 at H1 ⊢
 go_ret
 exact ⟨rfl,(H1.out.alloc_obj _).bel⟩
theorem p5 (n:Int) (h:0≤n) (w:World) :
  Calls prog 137 #[.agg #[.int .u8 1,.int .u8 1,.int .i64 n,.string ⟨#[]⟩,.int .i64 0,.int .i64 0,.int .i64 0,.int .i64 0,.int .i64 0,.int .u8 0,.int .i64 0]] w fun e w'=>e=.returned (.int .i64 0)∧Below w.heap.size w w':=by
 have H1:=Lib.hid (((Ok.start w).alloc w.heap.size 39 [.int .u8 1,.int .u8 1,.int .i64 n,.string ⟨#[]⟩,.int .i64 0,.int .i64 0,.int .i64 0,.int .i64 0,.int .i64 0,.int .u8 0,.int .i64 0] rfl).alloc (w.heap.size+1) 39 [.int .u8 1,.int .u8 1,.int .i64 n,.string ⟨#[]⟩,.int .i64 0,.int .i64 0,.int .i64 0,.int .i64 0,.int .i64 0,.int .u8 0,.int .i64 0] (by simp))
 go_enter func137,ntmps137
 go_wp2_with fail
 generalize ((w.alloc (.cells #[.int .u8 1,.int .u8 1,.int .i64 n,.string ⟨#[]⟩,.int .i64 0,.int .i64 0,.int .i64 0,.int .i64 0,.int .i64 0,.int .u8 0,.int .i64 0] 39)).alloc (.cells #[.int .u8 1,.int .u8 1,.int .i64 n,.string ⟨#[]⟩,.int .i64 0,.int .i64 0,.int .i64 0,.int .i64 0,.int .i64 0,.int .u8 0,.int .i64 0] 39))=W2 at H1 ⊢
 refine cM (sq n h _) H1 fun w3 H5=>?_
 clear H1
 have F6:=sE H5
 go_wp2_with fail
 go_ret
 exact ⟨rfl,H5.out.bel⟩
theorem sG  (w:World) :
  Calls prog 137 #[.agg #[.int .u8 1,.int .u8 2,.int .i64 0,.string ⟨#[]⟩,.int .i64 0,.int .i64 0,.int .i64 0,.int .i64 0,.int .i64 0,.int .u8 0,.int .i64 0]] w fun e w'=>e=.returned (.int .i64 0)∧Below w.heap.size w w':=by
 have H1:=Lib.hid (((Ok.start w).alloc w.heap.size 39 [.int .u8 1,.int .u8 2,.int .i64 0,.string ⟨#[]⟩,.int .i64 0,.int .i64 0,.int .i64 0,.int .i64 0,.int .i64 0,.int .u8 0,.int .i64 0] rfl).alloc (w.heap.size+1) 39 [.int .u8 1,.int .u8 2,.int .i64 0,.string ⟨#[]⟩,.int .i64 0,.int .i64 0,.int .i64 0,.int .i64 0,.int .i64 0,.int .u8 0,.int .i64 0] (by simp))
 go_enter func137,ntmps137
 go_wp2_with fail
 generalize ((w.alloc (.cells #[.int .u8 1,.int .u8 2,.int .i64 0,.string ⟨#[]⟩,.int .i64 0,.int .i64 0,.int .i64 0,.int .i64 0,.int .i64 0,.int .u8 0,.int .i64 0] 39)).alloc (.cells #[.int .u8 1,.int .u8 2,.int .i64 0,.string ⟨#[]⟩,.int .i64 0,.int .i64 0,.int .i64 0,.int .i64 0,.int .i64 0,.int .u8 0,.int .i64 0] 39))=W2 at H1 ⊢
 refine cM (tZ _) H1 fun w3 H5=>?_
 clear H1
 have F6:=sE H5
 go_wp2_with fail
 go_ret
 exact ⟨rfl,H5.out.bel⟩
theorem p9  (w:World) :
  Calls prog 137 #[.agg #[.int .u8 1,.int .u8 2,.int .i64 1,.string ⟨#[]⟩,.int .i64 0,.int .i64 0,.int .i64 0,.int .i64 0,.int .i64 0,.int .u8 0,.int .i64 0]] w fun e w'=>e=.returned (.int .i64 0)∧Below w.heap.size w w':=by
 have H1:=Lib.hid (((Ok.start w).alloc w.heap.size 39 [.int .u8 1,.int .u8 2,.int .i64 1,.string ⟨#[]⟩,.int .i64 0,.int .i64 0,.int .i64 0,.int .i64 0,.int .i64 0,.int .u8 0,.int .i64 0] rfl).alloc (w.heap.size+1) 39 [.int .u8 1,.int .u8 2,.int .i64 1,.string ⟨#[]⟩,.int .i64 0,.int .i64 0,.int .i64 0,.int .i64 0,.int .i64 0,.int .u8 0,.int .i64 0] (by simp))
 go_enter func137,ntmps137
 go_wp2_with fail
 generalize ((w.alloc (.cells #[.int .u8 1,.int .u8 2,.int .i64 1,.string ⟨#[]⟩,.int .i64 0,.int .i64 0,.int .i64 0,.int .i64 0,.int .i64 0,.int .u8 0,.int .i64 0] 39)).alloc (.cells #[.int .u8 1,.int .u8 2,.int .i64 1,.string ⟨#[]⟩,.int .i64 0,.int .i64 0,.int .i64 0,.int .i64 0,.int .i64 0,.int .u8 0,.int .i64 0] 39))=W2 at H1 ⊢
 refine cM (ss _) H1 fun w3 H5=>?_
 clear H1
 have F6:=sE H5
 go_wp2_with fail
 go_ret
 exact ⟨rfl,H5.out.bel⟩
theorem p8 (t:List UInt8) (h:t.length≤256) (hp:t.all ay=true) (w:World) :
  Calls prog 137 #[.agg #[.int .u8 1,.int .u8 3,.int .i64 0,.string ⟨t.toArray⟩,.int .i64 0,.int .i64 0,.int .i64 0,.int .i64 0,.int .i64 0,.int .u8 0,.int .i64 0]] w fun e w'=>e=.returned (.int .i64 0)∧Below w.heap.size w w':=by
 have H1:=Lib.hid (((Ok.start w).alloc w.heap.size 39 [.int .u8 1,.int .u8 3,.int .i64 0,.string ⟨t.toArray⟩,.int .i64 0,.int .i64 0,.int .i64 0,.int .i64 0,.int .i64 0,.int .u8 0,.int .i64 0] rfl).alloc (w.heap.size+1) 39 [.int .u8 1,.int .u8 3,.int .i64 0,.string ⟨t.toArray⟩,.int .i64 0,.int .i64 0,.int .i64 0,.int .i64 0,.int .i64 0,.int .u8 0,.int .i64 0] (by simp))
 go_enter func137,ntmps137
 go_wp2_with fail
 generalize ((w.alloc (.cells #[.int .u8 1,.int .u8 3,.int .i64 0,.string ⟨t.toArray⟩,.int .i64 0,.int .i64 0,.int .i64 0,.int .i64 0,.int .i64 0,.int .u8 0,.int .i64 0] 39)).alloc (.cells #[.int .u8 1,.int .u8 3,.int .i64 0,.string ⟨t.toArray⟩,.int .i64 0,.int .i64 0,.int .i64 0,.int .i64 0,.int .i64 0,.int .u8 0,.int .i64 0] 39))=W2 at H1 ⊢
 refine cM (sr t h hp _) H1 fun w3 H5=>?_
 clear H1
 have F6:=sE H5
 go_wp2_with fail
 go_ret
 exact ⟨rfl,H5.out.bel⟩
theorem pY (c:Int) (h1:1≤c) (h2:c≤5) (w:World) :
  Calls prog 137 #[.agg #[.int .u8 1,.int .u8 4,.int .i64 c,.string ⟨#[]⟩,.int .i64 0,.int .i64 0,.int .i64 0,.int .i64 0,.int .i64 0,.int .u8 0,.int .i64 0]] w fun e w'=>e=.returned (.int .i64 0)∧Below w.heap.size w w':=by
 have H1:=Lib.hid (((Ok.start w).alloc w.heap.size 39 [.int .u8 1,.int .u8 4,.int .i64 c,.string ⟨#[]⟩,.int .i64 0,.int .i64 0,.int .i64 0,.int .i64 0,.int .i64 0,.int .u8 0,.int .i64 0] rfl).alloc (w.heap.size+1) 39 [.int .u8 1,.int .u8 4,.int .i64 c,.string ⟨#[]⟩,.int .i64 0,.int .i64 0,.int .i64 0,.int .i64 0,.int .i64 0,.int .u8 0,.int .i64 0] (by simp))
 go_enter func137,ntmps137
 go_wp2_with fail
 generalize ((w.alloc (.cells #[.int .u8 1,.int .u8 4,.int .i64 c,.string ⟨#[]⟩,.int .i64 0,.int .i64 0,.int .i64 0,.int .i64 0,.int .i64 0,.int .u8 0,.int .i64 0] 39)).alloc (.cells #[.int .u8 1,.int .u8 4,.int .i64 c,.string ⟨#[]⟩,.int .i64 0,.int .i64 0,.int .i64 0,.int .i64 0,.int .i64 0,.int .u8 0,.int .i64 0] 39))=W2 at H1 ⊢
 refine cM (mj c h1 (by omega) _) H1 fun w3 H5=>?_
 clear H1
 have F6:=sE H5
 go_wp2_with fail
 go_ret
 exact ⟨rfl,H5.out.bel⟩
theorem p7 (c r:Int) (hc:aE ⟨c,r,c,r⟩=true) (w:World) :
  Calls prog 137 #[.agg #[.int .u8 2,.int .u8 0,.int .i64 0,.string ⟨#[]⟩,.int .i64 c,.int .i64 r,.int .i64 c,.int .i64 r,.int .i64 0,.int .u8 0,.int .i64 0]] w fun e w'=>e=.returned (.int .i64 0)∧Below w.heap.size w w':=by
 have HCE:=keep (ba hc)
 clear hc
 have H1:=Lib.hid (((Ok.start w).alloc w.heap.size 39 [.int .u8 2,.int .u8 0,.int .i64 0,.string ⟨#[]⟩,.int .i64 c,.int .i64 r,.int .i64 c,.int .i64 r,.int .i64 0,.int .u8 0,.int .i64 0] rfl).alloc (w.heap.size+1) 39 [.int .u8 2,.int .u8 0,.int .i64 0,.string ⟨#[]⟩,.int .i64 c,.int .i64 r,.int .i64 c,.int .i64 r,.int .i64 0,.int .u8 0,.int .i64 0] (by simp))
 go_enter func137,ntmps137
 go_wp2_with fail
 generalize ((w.alloc (.cells #[.int .u8 2,.int .u8 0,.int .i64 0,.string ⟨#[]⟩,.int .i64 c,.int .i64 r,.int .i64 c,.int .i64 r,.int .i64 0,.int .u8 0,.int .i64 0] 39)).alloc (.cells #[.int .u8 2,.int .u8 0,.int .i64 0,.string ⟨#[]⟩,.int .i64 c,.int .i64 r,.int .i64 c,.int .i64 r,.int .i64 0,.int .u8 0,.int .i64 0] 39))=W2 at H1 ⊢
 refine cM (ca c r c r _) H1 fun w3 H5=>?_
 rw [HCE.out]
 clear H1
 have F6:=sE H5
 go_wp2_with fail
 go_ret
 exact ⟨rfl,H5.out.bel⟩
theorem l5 (a b c d:Int) (hc:aE ⟨a,b,c,d⟩=true) (hne:a≠c) (w:World) :
  Calls prog 137 #[.agg #[.int .u8 3,.int .u8 0,.int .i64 0,.string ⟨#[]⟩,.int .i64 a,.int .i64 b,.int .i64 c,.int .i64 d,.int .i64 0,.int .u8 0,.int .i64 0]] w fun e w'=>e=.returned (.int .i64 0)∧Below w.heap.size w w':=by
 have HCE:=keep (ba hc)
 clear hc
 have H1:=Lib.hid (((Ok.start w).alloc w.heap.size 39 [.int .u8 3,.int .u8 0,.int .i64 0,.string ⟨#[]⟩,.int .i64 a,.int .i64 b,.int .i64 c,.int .i64 d,.int .i64 0,.int .u8 0,.int .i64 0] rfl).alloc (w.heap.size+1) 39 [.int .u8 3,.int .u8 0,.int .i64 0,.string ⟨#[]⟩,.int .i64 a,.int .i64 b,.int .i64 c,.int .i64 d,.int .i64 0,.int .u8 0,.int .i64 0] (by simp))
 have hb:(a == c)=false:=by simpa using hne
 clear hne
 go_enter func137,ntmps137
 go_wp2_with fail
 generalize ((w.alloc (.cells #[.int .u8 3,.int .u8 0,.int .i64 0,.string ⟨#[]⟩,.int .i64 a,.int .i64 b,.int .i64 c,.int .i64 d,.int .i64 0,.int .u8 0,.int .i64 0] 39)).alloc (.cells #[.int .u8 3,.int .u8 0,.int .i64 0,.string ⟨#[]⟩,.int .i64 a,.int .i64 b,.int .i64 c,.int .i64 d,.int .i64 0,.int .u8 0,.int .i64 0] 39))=W2 at H1 ⊢
 refine cM (ca a b c d _) H1 fun w3 H5=>?_
 rw [HCE.out]
 clear H1
 have F6:=sE H5
 go_wp2_with fail
 go_ret
 exact ⟨rfl,H5.out.bel⟩
theorem l6 (a b d:Int) (hc:aE ⟨a,b,a,d⟩=true) (hne:b≠d) (w:World) :
  Calls prog 137 #[.agg #[.int .u8 3,.int .u8 0,.int .i64 0,.string ⟨#[]⟩,.int .i64 a,.int .i64 b,.int .i64 a,.int .i64 d,.int .i64 0,.int .u8 0,.int .i64 0]] w fun e w'=>e=.returned (.int .i64 0)∧Below w.heap.size w w':=by
 have HCE:=keep (ba hc)
 clear hc
 have H1:=Lib.hid (((Ok.start w).alloc w.heap.size 39 [.int .u8 3,.int .u8 0,.int .i64 0,.string ⟨#[]⟩,.int .i64 a,.int .i64 b,.int .i64 a,.int .i64 d,.int .i64 0,.int .u8 0,.int .i64 0] rfl).alloc (w.heap.size+1) 39 [.int .u8 3,.int .u8 0,.int .i64 0,.string ⟨#[]⟩,.int .i64 a,.int .i64 b,.int .i64 a,.int .i64 d,.int .i64 0,.int .u8 0,.int .i64 0] (by simp))
 have hb:(b == d)=false:=by simpa using hne
 clear hne
 go_enter func137,ntmps137
 go_wp2_with fail
 generalize ((w.alloc (.cells #[.int .u8 3,.int .u8 0,.int .i64 0,.string ⟨#[]⟩,.int .i64 a,.int .i64 b,.int .i64 a,.int .i64 d,.int .i64 0,.int .u8 0,.int .i64 0] 39)).alloc (.cells #[.int .u8 3,.int .u8 0,.int .i64 0,.string ⟨#[]⟩,.int .i64 a,.int .i64 b,.int .i64 a,.int .i64 d,.int .i64 0,.int .u8 0,.int .i64 0] 39))=W2 at H1 ⊢
 refine cM (ca a b a d _) H1 fun w3 H5=>?_
 rw [HCE.out]
 clear H1
 have F6:=sE H5
 go_wp2_with fail
 go_ret
 exact ⟨rfl,H5.out.bel⟩
theorem nT (fn k:Nat) (h1:1≤fn) (h2:fn≤50) (hk1:(arS fn).1≤k) (hk2:k≤(arS fn).2) (w:World) :
  Calls prog 137 #[.agg #[.int .u8 7,.int .u8 0,.int .i64 0,.string ⟨#[]⟩,.int .i64 0,.int .i64 0,.int .i64 0,.int .i64 0,.int .i64 0,.int .u8 (fn:Nat),.int .i64 (k:Nat)]] w fun e w'=>e=.returned (.int .i64 0)∧Below w.heap.size w w':=by
 have g1:¬ ((k:Nat):Int)<((arS fn).1:Nat):=by omega
 have g2:¬ ((k:Nat):Int)>((arS fn).2:Nat):=by omega
 have H1:=Lib.hid (((Ok.start w).alloc w.heap.size 39 [.int .u8 7,.int .u8 0,.int .i64 0,.string ⟨#[]⟩,.int .i64 0,.int .i64 0,.int .i64 0,.int .i64 0,.int .i64 0,.int .u8 (fn:Nat),.int .i64 (k:Nat)] rfl).var (w.heap.size+1) 39 [.int .u8 7,.int .u8 0,.int .i64 0,.string ⟨#[]⟩,.int .i64 0,.int .i64 0,.int .i64 0,.int .i64 0,.int .i64 0,.int .u8 0,.int .i64 0] (by simp))
 go_enter func137,ntmps137
 go_wp2_with fail
 generalize ((w.alloc (.cells #[.int .u8 7,.int .u8 0,.int .i64 0,.string ⟨#[]⟩,.int .i64 0,.int .i64 0,.int .i64 0,.int .i64 0,.int .i64 0,.int .u8 (fn:Nat),.int .i64 (k:Nat)] 39)).alloc (.cells #[.int .u8 7,.int .u8 0,.int .i64 0,.string ⟨#[]⟩,.int .i64 0,.int .i64 0,.int .i64 0,.int .i64 0,.int .i64 0,.int .u8 0,.int .i64 0] 39))=W2 at H1 ⊢
 have F3:=sE H1
 go_region
 clear F3
 have hfar:∀ x∈[af (w.heap.size) 39 [.int .u8 7,.int .u8 0,.int .i64 0,.string ⟨#[]⟩,.int .i64 0,.int .i64 0,.int .i64 0,.int .i64 0,.int .i64 0,.int .u8 (fn:Nat),.int .i64 (k:Nat)]],x.far (some (w.heap.size+1)):=by
  intro x hx
  simp at hx
  subst hx
  show some w.heap.size≠some (w.heap.size+1)
  simp
 have H5:=Lib.hid (((H1.out.set_ (i:=9) (u:=.int .u8 (fn:Nat)) (by omega) hfar).set_ (i:=10) (u:=.int .i64 (k:Nat)) (by omega) hfar).drew)
 clear hfar H1
 have H6:Hid (Ok w [ah (w.heap.size+1) 39 [.int .u8 7,.int .u8 0,.int .i64 0,.string ⟨#[]⟩,.int .i64 0,.int .i64 0,.int .i64 0,.int .i64 0,.int .i64 0,.int .u8 (fn:Nat),.int .i64 (k:Nat)],af (w.heap.size) 39 [.int .u8 7,.int .u8 0,.int .i64 0,.string ⟨#[]⟩,.int .i64 0,.int .i64 0,.int .i64 0,.int .i64 0,.int .i64 0,.int .u8 (fn:Nat),.int .i64 (k:Nat)]] (((W2.setCell ⟨w.heap.size+1,9,none⟩ (.int .u8 (fn:Nat))).setCell ⟨w.heap.size+1,10,none⟩ (.int .i64 (k:Nat))).drew)):=H5
 clear H5
 generalize ((W2.setCell ⟨w.heap.size+1,9,none⟩ (.int .u8 (fn:Nat))).setCell ⟨w.heap.size+1,10,none⟩ (.int .i64 (k:Nat))).drew=W9 at H6 ⊢
 have F4:=sE H6
 go_wp2_with fail
 refine (cX fn _ h1 h2).mono ?_
 rintro e w5 ⟨rfl,hw⟩
 obtain rfl:W9=w5:=hw.symm
 go_wp2_with fail
 go_ret
 exact ⟨rfl,H6.out.bel⟩
def aJ (n:Nd):Prop :=
 (∃ vk vn vt,n=⟨1,vk,vn,vt,R4.zero,0,0,0⟩∧dD vk vn vt)∨(∃ r,n=cJ r∧aE r=true∧r.c1=r.c2∧r.r1=r.r2)∨(∃ r,n=aK r∧aE r=true∧¬ (r.c1=r.c2∧r.r1=r.r2)) ∨
 n=ci∨n=bR∨(∃ op,n=aH op∧1≤op∧op≤12)∨∃ fn k,n=bI fn k∧1≤fn∧fn≤50∧(arS fn).1≤k∧k≤(arS fn).2
theorem pp (n:Nd) (h:aJ n) (w:World) :
  Calls prog 137 #[ndA n] w fun e w'=>e=.returned (.int .i64 0)∧Below w.heap.size w w':=by
 rcases h with ⟨vk,vn,vt,rfl,hv⟩ | ⟨⟨a,b,c,d⟩,rfl,hc,h1,h2⟩ | ⟨⟨a,b,c,d⟩,rfl,hc,hne⟩ | rfl | rfl | ⟨op,rfl,h1,h2⟩ | ⟨fn,k,rfl,h1,h2,h3,h4⟩
 ·rcases hv with ⟨rfl,h1,rfl⟩ | ⟨rfl,h1 | h1,rfl⟩ | ⟨rfl,rfl,h1,h2⟩ | ⟨rfl,⟨h1,h2⟩,rfl⟩
  ·exact p5 vn h1 w
  ·subst h1; exact sG w
  ·subst h1; exact p9 w
  ·exact p8 vt h1 h2 w
  exact pY vn h1 h2 w
 ·simp only [] at h1 h2
  subst h1 h2
  exact p7 a b hc w
 ·simp only [] at hne
  by_cases h1:a=c
  ·subst h1
   exact l6 a b d hc (fun h=>hne ⟨rfl,h⟩) w
  exact l5 a b c d hc h1 w
 ·exact pZ w
 ·exact p6 w
 ·exact pX op h1 h2 w
 exact nT fn k h1 h2 h3 h4 w
