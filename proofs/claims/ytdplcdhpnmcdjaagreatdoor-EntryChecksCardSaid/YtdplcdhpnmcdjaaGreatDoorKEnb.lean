/- entry.constant. -/
import Derived.Test.YtdplcdhpnmcdjaaGreatDoorKEna
import Derived.Test.YtdplcdhpnmcdjaaGreatDoorKTg
import Derived.Test.YtdplcdhpnmcdjaaGreatDoorKRqE
import Derived.Test.YtdplcdhpnmcdjaaGreatDoorKDpV
import Derived.Laws.EntriesVeiled
namespace Go.Proofs.YtdplcdhpnmcdjaaGreatDoor
set_option maxRecDepth 100000
set_option maxHeartbeats 8000000
open Go.RowKit Go.Proofs.Tryz
def vlV (v:Vl):Value:=.agg #[.int .u8 (v.1:Nat),.int .i64 v.2.1,.string ⟨v.2.2.toArray⟩]
def gd (f k b:Nat) (s:ByteArray):Prop:=∀ w,cK b s w→Words w→Calls prog f #[.pointer (some ⟨b,0,none⟩)] w fun e w'=>e=.returned (.tuple #[vlV (bh k s.data.toList).1,.bool (bh k s.data.toList).2])∧Below w.heap.size w w'
theorem xW {s:ByteArray}:s.toList.isEmpty=s.data.toList.isEmpty:=by rw [toL]
theorem yq (b:Nat) (s:ByteArray):gd 116 0 b s:=by
 intro w hin _
 cases h:s.data.toList.isEmpty with
 | true =>
  have e:s=⟨#[]⟩:=by
   obtain ⟨⟨l⟩⟩:=s
   have h:l.isEmpty=true:=h
   rw [List.isEmpty_iff.1 h]
  subst e
  exact xL b w hin
 | false =>
  have e:bh 0 s.data.toList=((0,0,[]),false):=by unfold bh; rw [if_pos rfl,h]
  rw [e]
  exact xK s b (by rw [xW]; exact h) w hin
theorem yr (b:Nat) (s:ByteArray):gd 117 1 b s:=by
 intro w hin _
 exact cl2 s b _ _ rfl rfl w hin
theorem ys (b:Nat) (s:ByteArray) (hs:s.size≤4611686018427387904) (hc:aC s.data.toList=0):gd 118 2 b s:=by
 intro w hin _
 have h:=fun w=>m2 s hs hc w
 by_cases h1:s.data.toList.map upB=c6
 ·have e:i6 s.data.toList=(2,1):=if_pos h1
  have e2:bh 2 s.data.toList=((2,1,[]),true):=if_pos h1
  rw [e] at h
  rw [e2]
  exact xO s b (keep h) w hin
 by_cases h2:s.data.toList.map upB=cf
 ·have e:i6 s.data.toList=(2,0):=by unfold i6; rw [if_neg h1,if_pos h2]
  have e2:bh 2 s.data.toList=((2,0,[]),true):=by rw [j7,if_neg h1,if_pos h2]
  rw [e] at h
  rw [e2]
  exact xM s b (keep h) w hin
 have e:i6 s.data.toList=(4,2):=by unfold i6; rw [if_neg h1,if_neg h2]
 have e2:bh 2 s.data.toList=((4,2,[]),false):=by rw [j7,if_neg h1,if_neg h2]
 rw [e] at h
 rw [e2]
 exact xN s b (keep h) w hin
theorem oP (l:List UInt8):bH l≤7:=by
 unfold bH
 split
 ·rename_i k h
  have h2:k<7:=(List.idxOf?_eq_some_iff.1 h).1
  omega
 omega
theorem yt (b:Nat) (s:ByteArray) (hs:s.size≤4611686018427387904):gd 120 3 b s:=by
 intro w hin hw
 have h:=fun w hw=>qJ s hs w hw
 have h7:=oP s.data.toList
 unfold iL at h
 by_cases h0:bH s.data.toList=0
 ·have e2:bh 3 s.data.toList=((4,2,[]),false):=by rw [lR,if_pos h0]
  rw [h0] at h
  rw [e2]
  exact xP s b (keep h) w hin (keep hw)
 have e2:bh 3 s.data.toList=((4,(bH s.data.toList:Int),[]),decide (bH s.data.toList≤5)):=by rw [lR,if_neg h0]
 rw [e2]
 simp only [if_neg h0] at h
 exact xQ s b (bH s.data.toList:Nat) (by omega) (by omega) _ (by rw [decide_eq_decide]; omega) (keep h) w hin (keep hw)
theorem yu (b:Nat) (s:ByteArray) (hs:s.size≤300):gd 122 4 b s:=by
 intro w hin _
 have h:=fun w=>np s w hs
 have hr:=gB s.data.toList
 rcases rR s.data.toList with g | g | g
 ·have e2:bh 4 s.data.toList=((1,(cx s.data.toList).1,[]),true):=by rw [iF,if_neg (by rw [g]; decide),g]; rfl
  rw [e2]
  rw [g] at h
  exact xT s b _ (beq_eq_false_iff_ne.2 (by omega)) (keep h) w hin
 ·have e2:bh 4 s.data.toList=((4,3,[]),true):=by rw [iF,if_pos (by rw [g])]
  rw [e2]
  rw [g] at h
  exact xS s b (keep h) w hin
 have e2:bh 4 s.data.toList=((1,0,[]),false):=by rw [iF,if_neg (by rw [g]; decide),g]; rfl
 rw [e2]
 rw [g] at h
 exact xR s b (keep h) w hin
theorem jt (s:ByteArray) (hs:s.size≤256) (hc:aC s.data.toList=0) (w:World) (hw:Words w) :
  Calls prog 73 #[.string s] w fun e w'=>e=.returned (vlV (be s.data.toList))∧Below w.heap.size w w':=by
 have T0:=keep (yq w.heap.size s)
 have T1:=keep (yr w.heap.size s)
 have T2:=keep (ys w.heap.size s (by omega) hc)
 have T3:=keep (yt w.heap.size s (by omega))
 have T4:=keep (yu w.heap.size s (by omega))
 have HW:=keep hw
 obtain ⟨V,hV⟩:=ex (be s.data.toList)
 have HNO:=keep (fun h=>(jn (l:=s.data.toList) h).symm.trans hV)
 have HAT:=keep (fun k h1 h2 h3=>(dI (l:=s.data.toList) (k:=k) h1 h2 h3).symm.trans hV)
 rw [hV]
 clear hc hw hV
 have H1:=Lib.hid (((Ok.start w).alloc w.heap.size 9 [.string s] rfl).var (w.heap.size+1) 35 [.int .u8 0,.int .i64 0,.string ⟨#[]⟩] (by simp))
 go_enter func73,ntmps73
 go_wp2_with fail
 go_step3
 go_wp2_with fail
 go_step3
 go_wp2_with fail
 have hsz:((w.alloc (.cells #[.string s] 9)).alloc (.cells #[.int .u8 0,.int .i64 0,.string ⟨#[]⟩] 35)).heap.size=w.heap.size+1+1:=by simp
 have H2:=Lib.hid (H1.out.alloc (w.heap.size+1+1) 148 [.func (.func 116) #[] #[.pointer (some ⟨w.heap.size,0,none⟩)],.func (.func 117) #[] #[.pointer (some ⟨w.heap.size,0,none⟩)],.func (.func 118) #[] #[.pointer (some ⟨w.heap.size,0,none⟩)],.func (.func 120) #[] #[.pointer (some ⟨w.heap.size,0,none⟩)],.func (.func 122) #[] #[.pointer (some ⟨w.heap.size,0,none⟩)]] hsz)
 clear hsz H1
 generalize (((w.alloc (.cells #[.string s] 9)).alloc (.cells #[.int .u8 0,.int .i64 0,.string ⟨#[]⟩] 35)).alloc (.cells #[.func (.func 116) #[] #[.pointer (some ⟨w.heap.size,0,none⟩)],.func (.func 117) #[] #[.pointer (some ⟨w.heap.size,0,none⟩)],.func (.func 118) #[] #[.pointer (some ⟨w.heap.size,0,none⟩)],.func (.func 120) #[] #[.pointer (some ⟨w.heap.size,0,none⟩)],.func (.func 122) #[] #[.pointer (some ⟨w.heap.size,0,none⟩)]] 148))=W3 at H2 ⊢
 go_loopw [4,15] (fun s4 s15 wr=>∃ (k:Nat) (v:Vl),k≤5∧s4=.bool false∧s15=.int .i64 (k:Int)∧ao (∀ j,j<k→(bh j s.data.toList).2=false)∧Hid (Ok w [ac (w.heap.size+1+1) 148 [.func (.func 116) #[] #[.pointer (some ⟨w.heap.size,0,none⟩)],.func (.func 117) #[] #[.pointer (some ⟨w.heap.size,0,none⟩)],.func (.func 118) #[] #[.pointer (some ⟨w.heap.size,0,none⟩)],.func (.func 120) #[] #[.pointer (some ⟨w.heap.size,0,none⟩)],.func (.func 122) #[] #[.pointer (some ⟨w.heap.size,0,none⟩)]],af (w.heap.size+1) 35 [.int .u8 (v.1:Nat),.int .i64 v.2.1,.string ⟨v.2.2.toArray⟩],ac (w.heap.size) 9 [.string s]] wr)) (fun _ kv _=>5 - (intOf kv).toNat)
 case atStart=>exact ⟨0,(0,0,[]),by omega,rfl,rfl,keep (fun j h=>by omega),H2⟩
 case round =>
  clear H2
  obtain ⟨k,v,hk,rfl,rfl,HJ,HQ⟩:=hrel
  obtain ⟨wq,rfl⟩:∃ wq:World,wq=wr:=⟨_,rfl⟩
  obtain ⟨a0,n0,t0⟩:=v
  have hk':k=0∨k=1∨k=2∨k=3∨k=4∨k=5:=by omega
  rcases hk' with rfl | rfl | rfl | rfl | rfl | rfl
  ·have hT:=T0.out
   unfold gd vlV at hT
   obtain ⟨V1,hV1⟩:=ex (bh 0 s.data.toList)
   have HA:=keep (HAT.out 0 (by decide) HJ.out)
   have HJ2:=keep (fun (h:(bh 0 s.data.toList).2=false) j (hj:j<1)=>show (bh j s.data.toList).2=false from by
    by_cases e:j=0
    ·rw [e]; exact h
    exact HJ.out j (by omega))
   rw [hV1] at hT HA HJ2
   clear hV1
   obtain ⟨⟨a1,n1,t1⟩,B1⟩:=V1
   dsimp only at hT
   have HT:=keep hT
   clear hT
   have F2:=HQ.out.sees
   simp only [sees,ac,af,aa,Nat.reduceAdd] at F2
   obtain ⟨⟨z0,c00,c01,c02,c03,c04,-⟩,⟨⟨z1,fz1⟩,c10,c11,c12,-⟩,⟨z2,c20,-⟩,-⟩:=F2
   go_wp2_with fail
   have hbox:cK w.heap.size s wq:=⟨z2,c20,trivial⟩
   refine cM (HT.out _ hbox (HW.out.below HQ.out.bel)) HQ fun w3 H5=>?_
   clear z0 c00 c01 c02 c03 c04 z1 fz1 c10 c11 c12 z2 c20
   clear hbox HQ
   have F6:=sE H5
   cases B1
   ·go_wp2_with fail
    have hfar:∀ x∈[ac (w.heap.size+1+1) 148 [.func (.func 116) #[] #[.pointer (some ⟨w.heap.size,0,none⟩)],.func (.func 117) #[] #[.pointer (some ⟨w.heap.size,0,none⟩)],.func (.func 118) #[] #[.pointer (some ⟨w.heap.size,0,none⟩)],.func (.func 120) #[] #[.pointer (some ⟨w.heap.size,0,none⟩)],.func (.func 122) #[] #[.pointer (some ⟨w.heap.size,0,none⟩)]],ac (w.heap.size) 9 [.string s]],x.far (some (w.heap.size+1)):=by
     intro x hx
     simp only [List.mem_cons,List.not_mem_nil,or_false] at hx
     rcases hx with rfl | rfl
     ·show some (w.heap.size+1+1)≠some (w.heap.size+1)
      simp
     show some w.heap.size≠some (w.heap.size+1)
     simp
    have HE0:=Lib.hid (H5.out.drop [af (w.heap.size+1) 35 [.int .u8 (a0:Nat),.int .i64 n0,.string ⟨t0.toArray⟩],ac (w.heap.size+1+1) 148 [.func (.func 116) #[] #[.pointer (some ⟨w.heap.size,0,none⟩)],.func (.func 117) #[] #[.pointer (some ⟨w.heap.size,0,none⟩)],.func (.func 118) #[] #[.pointer (some ⟨w.heap.size,0,none⟩)],.func (.func 120) #[] #[.pointer (some ⟨w.heap.size,0,none⟩)],.func (.func 122) #[] #[.pointer (some ⟨w.heap.size,0,none⟩)]],ac (w.heap.size) 9 [.string s]] (by simp))
    have HE:=Lib.hid (((HE0.out.set_ (i:=0) (u:=.int .u8 (a1:Nat)) (by omega) hfar).set_ (i:=1) (u:=.int .i64 n1) (by omega) hfar).set_ (i:=2) (u:=.string ⟨t1.toArray⟩) (by omega) hfar)
    go_roundw
    case rel=>exact ⟨1,(a1,n1,t1),by omega,rfl,by go_num,keep (HJ2.out (by first | trivial | rfl)),Lib.hid (HE.out.drop _ (by simp))⟩
    case measure=>simp [intOf]
   go_wp2_with fail
   have hfar:∀ x∈[ac (w.heap.size+1+1) 148 [.func (.func 116) #[] #[.pointer (some ⟨w.heap.size,0,none⟩)],.func (.func 117) #[] #[.pointer (some ⟨w.heap.size,0,none⟩)],.func (.func 118) #[] #[.pointer (some ⟨w.heap.size,0,none⟩)],.func (.func 120) #[] #[.pointer (some ⟨w.heap.size,0,none⟩)],.func (.func 122) #[] #[.pointer (some ⟨w.heap.size,0,none⟩)]],ac (w.heap.size) 9 [.string s]],x.far (some (w.heap.size+1)):=by
    intro x hx
    simp only [List.mem_cons,List.not_mem_nil,or_false] at hx
    rcases hx with rfl | rfl
    ·show some (w.heap.size+1+1)≠some (w.heap.size+1)
     simp
    show some w.heap.size≠some (w.heap.size+1)
    simp
   have HE0:=Lib.hid (H5.out.drop [af (w.heap.size+1) 35 [.int .u8 (a0:Nat),.int .i64 n0,.string ⟨t0.toArray⟩],ac (w.heap.size+1+1) 148 [.func (.func 116) #[] #[.pointer (some ⟨w.heap.size,0,none⟩)],.func (.func 117) #[] #[.pointer (some ⟨w.heap.size,0,none⟩)],.func (.func 118) #[] #[.pointer (some ⟨w.heap.size,0,none⟩)],.func (.func 120) #[] #[.pointer (some ⟨w.heap.size,0,none⟩)],.func (.func 122) #[] #[.pointer (some ⟨w.heap.size,0,none⟩)]],ac (w.heap.size) 9 [.string s]] (by simp))
   have HE:=Lib.hid ((((((HE0.out.set_ (i:=0) (u:=.int .u8 (a1:Nat)) (by omega) hfar).set_ (i:=1) (u:=.int .i64 n1) (by omega) hfar).set_ (i:=2) (u:=.string ⟨t1.toArray⟩) (by omega) hfar).set_ (i:=0) (u:=.int .u8 (a1:Nat)) (by omega) hfar).set_ (i:=1) (u:=.int .i64 n1) (by omega) hfar).set_ (i:=2) (u:=.string ⟨t1.toArray⟩) (by omega) hfar)
   have HV:=keep (HA.out (by first | trivial | rfl))
   clear HA HJ2
   have F9:=HE.out.sees
   simp only [sees,af,ac,aa,Nat.reduceAdd,List.set_cons_succ,List.set_cons_zero] at F9
   obtain ⟨⟨⟨y0,g0⟩,r0,r1,r2,-⟩,-⟩:=F9
   try rw [Exit.noGoto_ret]
   have hv2:=HV.out
   subst hv2
   exact bodyPost_ret (v:=.agg #[.int .u8 (a1:Nat),.int .i64 n1,.string ⟨t1.toArray⟩]) (by simp [results,results73,go_sem,r0,r1,r2]) rfl ⟨rfl,HE.out.bel⟩
  ·have hT:=T1.out
   unfold gd vlV at hT
   obtain ⟨V1,hV1⟩:=ex (bh 1 s.data.toList)
   have HA:=keep (HAT.out 1 (by decide) HJ.out)
   have HJ2:=keep (fun (h:(bh 1 s.data.toList).2=false) j (hj:j<2)=>show (bh j s.data.toList).2=false from by
    by_cases e:j=1
    ·rw [e]; exact h
    exact HJ.out j (by omega))
   rw [hV1] at hT HA HJ2
   clear hV1
   obtain ⟨⟨a1,n1,t1⟩,B1⟩:=V1
   dsimp only at hT
   have HT:=keep hT
   clear hT
   have F2:=HQ.out.sees
   simp only [sees,ac,af,aa,Nat.reduceAdd] at F2
   obtain ⟨⟨z0,c00,c01,c02,c03,c04,-⟩,⟨⟨z1,fz1⟩,c10,c11,c12,-⟩,⟨z2,c20,-⟩,-⟩:=F2
   go_wp2_with fail
   have hbox:cK w.heap.size s wq:=⟨z2,c20,trivial⟩
   refine cM (HT.out _ hbox (HW.out.below HQ.out.bel)) HQ fun w3 H5=>?_
   clear z0 c00 c01 c02 c03 c04 z1 fz1 c10 c11 c12 z2 c20
   clear hbox HQ
   have F6:=sE H5
   cases B1
   ·go_wp2_with fail
    have hfar:∀ x∈[ac (w.heap.size+1+1) 148 [.func (.func 116) #[] #[.pointer (some ⟨w.heap.size,0,none⟩)],.func (.func 117) #[] #[.pointer (some ⟨w.heap.size,0,none⟩)],.func (.func 118) #[] #[.pointer (some ⟨w.heap.size,0,none⟩)],.func (.func 120) #[] #[.pointer (some ⟨w.heap.size,0,none⟩)],.func (.func 122) #[] #[.pointer (some ⟨w.heap.size,0,none⟩)]],ac (w.heap.size) 9 [.string s]],x.far (some (w.heap.size+1)):=by
     intro x hx
     simp only [List.mem_cons,List.not_mem_nil,or_false] at hx
     rcases hx with rfl | rfl
     ·show some (w.heap.size+1+1)≠some (w.heap.size+1)
      simp
     show some w.heap.size≠some (w.heap.size+1)
     simp
    have HE0:=Lib.hid (H5.out.drop [af (w.heap.size+1) 35 [.int .u8 (a0:Nat),.int .i64 n0,.string ⟨t0.toArray⟩],ac (w.heap.size+1+1) 148 [.func (.func 116) #[] #[.pointer (some ⟨w.heap.size,0,none⟩)],.func (.func 117) #[] #[.pointer (some ⟨w.heap.size,0,none⟩)],.func (.func 118) #[] #[.pointer (some ⟨w.heap.size,0,none⟩)],.func (.func 120) #[] #[.pointer (some ⟨w.heap.size,0,none⟩)],.func (.func 122) #[] #[.pointer (some ⟨w.heap.size,0,none⟩)]],ac (w.heap.size) 9 [.string s]] (by simp))
    have HE:=Lib.hid (((HE0.out.set_ (i:=0) (u:=.int .u8 (a1:Nat)) (by omega) hfar).set_ (i:=1) (u:=.int .i64 n1) (by omega) hfar).set_ (i:=2) (u:=.string ⟨t1.toArray⟩) (by omega) hfar)
    go_roundw
    case rel=>exact ⟨2,(a1,n1,t1),by omega,rfl,by go_num,keep (HJ2.out (by first | trivial | rfl)),Lib.hid (HE.out.drop _ (by simp))⟩
    case measure=>simp [intOf]
   go_wp2_with fail
   have hfar:∀ x∈[ac (w.heap.size+1+1) 148 [.func (.func 116) #[] #[.pointer (some ⟨w.heap.size,0,none⟩)],.func (.func 117) #[] #[.pointer (some ⟨w.heap.size,0,none⟩)],.func (.func 118) #[] #[.pointer (some ⟨w.heap.size,0,none⟩)],.func (.func 120) #[] #[.pointer (some ⟨w.heap.size,0,none⟩)],.func (.func 122) #[] #[.pointer (some ⟨w.heap.size,0,none⟩)]],ac (w.heap.size) 9 [.string s]],x.far (some (w.heap.size+1)):=by
    intro x hx
    simp only [List.mem_cons,List.not_mem_nil,or_false] at hx
    rcases hx with rfl | rfl
    ·show some (w.heap.size+1+1)≠some (w.heap.size+1)
     simp
    show some w.heap.size≠some (w.heap.size+1)
    simp
   have HE0:=Lib.hid (H5.out.drop [af (w.heap.size+1) 35 [.int .u8 (a0:Nat),.int .i64 n0,.string ⟨t0.toArray⟩],ac (w.heap.size+1+1) 148 [.func (.func 116) #[] #[.pointer (some ⟨w.heap.size,0,none⟩)],.func (.func 117) #[] #[.pointer (some ⟨w.heap.size,0,none⟩)],.func (.func 118) #[] #[.pointer (some ⟨w.heap.size,0,none⟩)],.func (.func 120) #[] #[.pointer (some ⟨w.heap.size,0,none⟩)],.func (.func 122) #[] #[.pointer (some ⟨w.heap.size,0,none⟩)]],ac (w.heap.size) 9 [.string s]] (by simp))
   have HE:=Lib.hid ((((((HE0.out.set_ (i:=0) (u:=.int .u8 (a1:Nat)) (by omega) hfar).set_ (i:=1) (u:=.int .i64 n1) (by omega) hfar).set_ (i:=2) (u:=.string ⟨t1.toArray⟩) (by omega) hfar).set_ (i:=0) (u:=.int .u8 (a1:Nat)) (by omega) hfar).set_ (i:=1) (u:=.int .i64 n1) (by omega) hfar).set_ (i:=2) (u:=.string ⟨t1.toArray⟩) (by omega) hfar)
   have HV:=keep (HA.out (by first | trivial | rfl))
   clear HA HJ2
   have F9:=HE.out.sees
   simp only [sees,af,ac,aa,Nat.reduceAdd,List.set_cons_succ,List.set_cons_zero] at F9
   obtain ⟨⟨⟨y0,g0⟩,r0,r1,r2,-⟩,-⟩:=F9
   try rw [Exit.noGoto_ret]
   have hv2:=HV.out
   subst hv2
   exact bodyPost_ret (v:=.agg #[.int .u8 (a1:Nat),.int .i64 n1,.string ⟨t1.toArray⟩]) (by simp [results,results73,go_sem,r0,r1,r2]) rfl ⟨rfl,HE.out.bel⟩
  ·have hT:=T2.out
   unfold gd vlV at hT
   obtain ⟨V1,hV1⟩:=ex (bh 2 s.data.toList)
   have HA:=keep (HAT.out 2 (by decide) HJ.out)
   have HJ2:=keep (fun (h:(bh 2 s.data.toList).2=false) j (hj:j<3)=>show (bh j s.data.toList).2=false from by
    by_cases e:j=2
    ·rw [e]; exact h
    exact HJ.out j (by omega))
   rw [hV1] at hT HA HJ2
   clear hV1
   obtain ⟨⟨a1,n1,t1⟩,B1⟩:=V1
   dsimp only at hT
   have HT:=keep hT
   clear hT
   have F2:=HQ.out.sees
   simp only [sees,ac,af,aa,Nat.reduceAdd] at F2
   obtain ⟨⟨z0,c00,c01,c02,c03,c04,-⟩,⟨⟨z1,fz1⟩,c10,c11,c12,-⟩,⟨z2,c20,-⟩,-⟩:=F2
   go_wp2_with fail
   have hbox:cK w.heap.size s wq:=⟨z2,c20,trivial⟩
   refine cM (HT.out _ hbox (HW.out.below HQ.out.bel)) HQ fun w3 H5=>?_
   clear z0 c00 c01 c02 c03 c04 z1 fz1 c10 c11 c12 z2 c20
   clear hbox HQ
   have F6:=sE H5
   cases B1
   ·go_wp2_with fail
    have hfar:∀ x∈[ac (w.heap.size+1+1) 148 [.func (.func 116) #[] #[.pointer (some ⟨w.heap.size,0,none⟩)],.func (.func 117) #[] #[.pointer (some ⟨w.heap.size,0,none⟩)],.func (.func 118) #[] #[.pointer (some ⟨w.heap.size,0,none⟩)],.func (.func 120) #[] #[.pointer (some ⟨w.heap.size,0,none⟩)],.func (.func 122) #[] #[.pointer (some ⟨w.heap.size,0,none⟩)]],ac (w.heap.size) 9 [.string s]],x.far (some (w.heap.size+1)):=by
     intro x hx
     simp only [List.mem_cons,List.not_mem_nil,or_false] at hx
     rcases hx with rfl | rfl
     ·show some (w.heap.size+1+1)≠some (w.heap.size+1)
      simp
     show some w.heap.size≠some (w.heap.size+1)
     simp
    have HE0:=Lib.hid (H5.out.drop [af (w.heap.size+1) 35 [.int .u8 (a0:Nat),.int .i64 n0,.string ⟨t0.toArray⟩],ac (w.heap.size+1+1) 148 [.func (.func 116) #[] #[.pointer (some ⟨w.heap.size,0,none⟩)],.func (.func 117) #[] #[.pointer (some ⟨w.heap.size,0,none⟩)],.func (.func 118) #[] #[.pointer (some ⟨w.heap.size,0,none⟩)],.func (.func 120) #[] #[.pointer (some ⟨w.heap.size,0,none⟩)],.func (.func 122) #[] #[.pointer (some ⟨w.heap.size,0,none⟩)]],ac (w.heap.size) 9 [.string s]] (by simp))
    have HE:=Lib.hid (((HE0.out.set_ (i:=0) (u:=.int .u8 (a1:Nat)) (by omega) hfar).set_ (i:=1) (u:=.int .i64 n1) (by omega) hfar).set_ (i:=2) (u:=.string ⟨t1.toArray⟩) (by omega) hfar)
    go_roundw
    case rel=>exact ⟨3,(a1,n1,t1),by omega,rfl,by go_num,keep (HJ2.out (by first | trivial | rfl)),Lib.hid (HE.out.drop _ (by simp))⟩
    case measure=>simp [intOf]
   go_wp2_with fail
   have hfar:∀ x∈[ac (w.heap.size+1+1) 148 [.func (.func 116) #[] #[.pointer (some ⟨w.heap.size,0,none⟩)],.func (.func 117) #[] #[.pointer (some ⟨w.heap.size,0,none⟩)],.func (.func 118) #[] #[.pointer (some ⟨w.heap.size,0,none⟩)],.func (.func 120) #[] #[.pointer (some ⟨w.heap.size,0,none⟩)],.func (.func 122) #[] #[.pointer (some ⟨w.heap.size,0,none⟩)]],ac (w.heap.size) 9 [.string s]],x.far (some (w.heap.size+1)):=by
    intro x hx
    simp only [List.mem_cons,List.not_mem_nil,or_false] at hx
    rcases hx with rfl | rfl
    ·show some (w.heap.size+1+1)≠some (w.heap.size+1)
     simp
    show some w.heap.size≠some (w.heap.size+1)
    simp
   have HE0:=Lib.hid (H5.out.drop [af (w.heap.size+1) 35 [.int .u8 (a0:Nat),.int .i64 n0,.string ⟨t0.toArray⟩],ac (w.heap.size+1+1) 148 [.func (.func 116) #[] #[.pointer (some ⟨w.heap.size,0,none⟩)],.func (.func 117) #[] #[.pointer (some ⟨w.heap.size,0,none⟩)],.func (.func 118) #[] #[.pointer (some ⟨w.heap.size,0,none⟩)],.func (.func 120) #[] #[.pointer (some ⟨w.heap.size,0,none⟩)],.func (.func 122) #[] #[.pointer (some ⟨w.heap.size,0,none⟩)]],ac (w.heap.size) 9 [.string s]] (by simp))
   have HE:=Lib.hid ((((((HE0.out.set_ (i:=0) (u:=.int .u8 (a1:Nat)) (by omega) hfar).set_ (i:=1) (u:=.int .i64 n1) (by omega) hfar).set_ (i:=2) (u:=.string ⟨t1.toArray⟩) (by omega) hfar).set_ (i:=0) (u:=.int .u8 (a1:Nat)) (by omega) hfar).set_ (i:=1) (u:=.int .i64 n1) (by omega) hfar).set_ (i:=2) (u:=.string ⟨t1.toArray⟩) (by omega) hfar)
   have HV:=keep (HA.out (by first | trivial | rfl))
   clear HA HJ2
   have F9:=HE.out.sees
   simp only [sees,af,ac,aa,Nat.reduceAdd,List.set_cons_succ,List.set_cons_zero] at F9
   obtain ⟨⟨⟨y0,g0⟩,r0,r1,r2,-⟩,-⟩:=F9
   try rw [Exit.noGoto_ret]
   have hv2:=HV.out
   subst hv2
   exact bodyPost_ret (v:=.agg #[.int .u8 (a1:Nat),.int .i64 n1,.string ⟨t1.toArray⟩]) (by simp [results,results73,go_sem,r0,r1,r2]) rfl ⟨rfl,HE.out.bel⟩
  ·have hT:=T3.out
   unfold gd vlV at hT
   obtain ⟨V1,hV1⟩:=ex (bh 3 s.data.toList)
   have HA:=keep (HAT.out 3 (by decide) HJ.out)
   have HJ2:=keep (fun (h:(bh 3 s.data.toList).2=false) j (hj:j<4)=>show (bh j s.data.toList).2=false from by
    by_cases e:j=3
    ·rw [e]; exact h
    exact HJ.out j (by omega))
   rw [hV1] at hT HA HJ2
   clear hV1
   obtain ⟨⟨a1,n1,t1⟩,B1⟩:=V1
   dsimp only at hT
   have HT:=keep hT
   clear hT
   have F2:=HQ.out.sees
   simp only [sees,ac,af,aa,Nat.reduceAdd] at F2
   obtain ⟨⟨z0,c00,c01,c02,c03,c04,-⟩,⟨⟨z1,fz1⟩,c10,c11,c12,-⟩,⟨z2,c20,-⟩,-⟩:=F2
   go_wp2_with fail
   have hbox:cK w.heap.size s wq:=⟨z2,c20,trivial⟩
   refine cM (HT.out _ hbox (HW.out.below HQ.out.bel)) HQ fun w3 H5=>?_
   clear z0 c00 c01 c02 c03 c04 z1 fz1 c10 c11 c12 z2 c20
   clear hbox HQ
   have F6:=sE H5
   cases B1
   ·go_wp2_with fail
    have hfar:∀ x∈[ac (w.heap.size+1+1) 148 [.func (.func 116) #[] #[.pointer (some ⟨w.heap.size,0,none⟩)],.func (.func 117) #[] #[.pointer (some ⟨w.heap.size,0,none⟩)],.func (.func 118) #[] #[.pointer (some ⟨w.heap.size,0,none⟩)],.func (.func 120) #[] #[.pointer (some ⟨w.heap.size,0,none⟩)],.func (.func 122) #[] #[.pointer (some ⟨w.heap.size,0,none⟩)]],ac (w.heap.size) 9 [.string s]],x.far (some (w.heap.size+1)):=by
     intro x hx
     simp only [List.mem_cons,List.not_mem_nil,or_false] at hx
     rcases hx with rfl | rfl
     ·show some (w.heap.size+1+1)≠some (w.heap.size+1)
      simp
     show some w.heap.size≠some (w.heap.size+1)
     simp
    have HE0:=Lib.hid (H5.out.drop [af (w.heap.size+1) 35 [.int .u8 (a0:Nat),.int .i64 n0,.string ⟨t0.toArray⟩],ac (w.heap.size+1+1) 148 [.func (.func 116) #[] #[.pointer (some ⟨w.heap.size,0,none⟩)],.func (.func 117) #[] #[.pointer (some ⟨w.heap.size,0,none⟩)],.func (.func 118) #[] #[.pointer (some ⟨w.heap.size,0,none⟩)],.func (.func 120) #[] #[.pointer (some ⟨w.heap.size,0,none⟩)],.func (.func 122) #[] #[.pointer (some ⟨w.heap.size,0,none⟩)]],ac (w.heap.size) 9 [.string s]] (by simp))
    have HE:=Lib.hid (((HE0.out.set_ (i:=0) (u:=.int .u8 (a1:Nat)) (by omega) hfar).set_ (i:=1) (u:=.int .i64 n1) (by omega) hfar).set_ (i:=2) (u:=.string ⟨t1.toArray⟩) (by omega) hfar)
    go_roundw
    case rel=>exact ⟨4,(a1,n1,t1),by omega,rfl,by go_num,keep (HJ2.out (by first | trivial | rfl)),Lib.hid (HE.out.drop _ (by simp))⟩
    case measure=>simp [intOf]
   go_wp2_with fail
   have hfar:∀ x∈[ac (w.heap.size+1+1) 148 [.func (.func 116) #[] #[.pointer (some ⟨w.heap.size,0,none⟩)],.func (.func 117) #[] #[.pointer (some ⟨w.heap.size,0,none⟩)],.func (.func 118) #[] #[.pointer (some ⟨w.heap.size,0,none⟩)],.func (.func 120) #[] #[.pointer (some ⟨w.heap.size,0,none⟩)],.func (.func 122) #[] #[.pointer (some ⟨w.heap.size,0,none⟩)]],ac (w.heap.size) 9 [.string s]],x.far (some (w.heap.size+1)):=by
    intro x hx
    simp only [List.mem_cons,List.not_mem_nil,or_false] at hx
    rcases hx with rfl | rfl
    ·show some (w.heap.size+1+1)≠some (w.heap.size+1)
     simp
    show some w.heap.size≠some (w.heap.size+1)
    simp
   have HE0:=Lib.hid (H5.out.drop [af (w.heap.size+1) 35 [.int .u8 (a0:Nat),.int .i64 n0,.string ⟨t0.toArray⟩],ac (w.heap.size+1+1) 148 [.func (.func 116) #[] #[.pointer (some ⟨w.heap.size,0,none⟩)],.func (.func 117) #[] #[.pointer (some ⟨w.heap.size,0,none⟩)],.func (.func 118) #[] #[.pointer (some ⟨w.heap.size,0,none⟩)],.func (.func 120) #[] #[.pointer (some ⟨w.heap.size,0,none⟩)],.func (.func 122) #[] #[.pointer (some ⟨w.heap.size,0,none⟩)]],ac (w.heap.size) 9 [.string s]] (by simp))
   have HE:=Lib.hid ((((((HE0.out.set_ (i:=0) (u:=.int .u8 (a1:Nat)) (by omega) hfar).set_ (i:=1) (u:=.int .i64 n1) (by omega) hfar).set_ (i:=2) (u:=.string ⟨t1.toArray⟩) (by omega) hfar).set_ (i:=0) (u:=.int .u8 (a1:Nat)) (by omega) hfar).set_ (i:=1) (u:=.int .i64 n1) (by omega) hfar).set_ (i:=2) (u:=.string ⟨t1.toArray⟩) (by omega) hfar)
   have HV:=keep (HA.out (by first | trivial | rfl))
   clear HA HJ2
   have F9:=HE.out.sees
   simp only [sees,af,ac,aa,Nat.reduceAdd,List.set_cons_succ,List.set_cons_zero] at F9
   obtain ⟨⟨⟨y0,g0⟩,r0,r1,r2,-⟩,-⟩:=F9
   try rw [Exit.noGoto_ret]
   have hv2:=HV.out
   subst hv2
   exact bodyPost_ret (v:=.agg #[.int .u8 (a1:Nat),.int .i64 n1,.string ⟨t1.toArray⟩]) (by simp [results,results73,go_sem,r0,r1,r2]) rfl ⟨rfl,HE.out.bel⟩
  ·have hT:=T4.out
   unfold gd vlV at hT
   obtain ⟨V1,hV1⟩:=ex (bh 4 s.data.toList)
   have HA:=keep (HAT.out 4 (by decide) HJ.out)
   have HJ2:=keep (fun (h:(bh 4 s.data.toList).2=false) j (hj:j<5)=>show (bh j s.data.toList).2=false from by
    by_cases e:j=4
    ·rw [e]; exact h
    exact HJ.out j (by omega))
   rw [hV1] at hT HA HJ2
   clear hV1
   obtain ⟨⟨a1,n1,t1⟩,B1⟩:=V1
   dsimp only at hT
   have HT:=keep hT
   clear hT
   have F2:=HQ.out.sees
   simp only [sees,ac,af,aa,Nat.reduceAdd] at F2
   obtain ⟨⟨z0,c00,c01,c02,c03,c04,-⟩,⟨⟨z1,fz1⟩,c10,c11,c12,-⟩,⟨z2,c20,-⟩,-⟩:=F2
   go_wp2_with fail
   have hbox:cK w.heap.size s wq:=⟨z2,c20,trivial⟩
   refine cM (HT.out _ hbox (HW.out.below HQ.out.bel)) HQ fun w3 H5=>?_
   clear z0 c00 c01 c02 c03 c04 z1 fz1 c10 c11 c12 z2 c20
   clear hbox HQ
   have F6:=sE H5
   cases B1
   ·go_wp2_with fail
    have hfar:∀ x∈[ac (w.heap.size+1+1) 148 [.func (.func 116) #[] #[.pointer (some ⟨w.heap.size,0,none⟩)],.func (.func 117) #[] #[.pointer (some ⟨w.heap.size,0,none⟩)],.func (.func 118) #[] #[.pointer (some ⟨w.heap.size,0,none⟩)],.func (.func 120) #[] #[.pointer (some ⟨w.heap.size,0,none⟩)],.func (.func 122) #[] #[.pointer (some ⟨w.heap.size,0,none⟩)]],ac (w.heap.size) 9 [.string s]],x.far (some (w.heap.size+1)):=by
     intro x hx
     simp only [List.mem_cons,List.not_mem_nil,or_false] at hx
     rcases hx with rfl | rfl
     ·show some (w.heap.size+1+1)≠some (w.heap.size+1)
      simp
     show some w.heap.size≠some (w.heap.size+1)
     simp
    have HE0:=Lib.hid (H5.out.drop [af (w.heap.size+1) 35 [.int .u8 (a0:Nat),.int .i64 n0,.string ⟨t0.toArray⟩],ac (w.heap.size+1+1) 148 [.func (.func 116) #[] #[.pointer (some ⟨w.heap.size,0,none⟩)],.func (.func 117) #[] #[.pointer (some ⟨w.heap.size,0,none⟩)],.func (.func 118) #[] #[.pointer (some ⟨w.heap.size,0,none⟩)],.func (.func 120) #[] #[.pointer (some ⟨w.heap.size,0,none⟩)],.func (.func 122) #[] #[.pointer (some ⟨w.heap.size,0,none⟩)]],ac (w.heap.size) 9 [.string s]] (by simp))
    have HE:=Lib.hid (((HE0.out.set_ (i:=0) (u:=.int .u8 (a1:Nat)) (by omega) hfar).set_ (i:=1) (u:=.int .i64 n1) (by omega) hfar).set_ (i:=2) (u:=.string ⟨t1.toArray⟩) (by omega) hfar)
    go_roundw
    case rel=>exact ⟨5,(a1,n1,t1),by omega,rfl,by go_num,keep (HJ2.out (by first | trivial | rfl)),Lib.hid (HE.out.drop _ (by simp))⟩
    case measure=>simp [intOf]
   go_wp2_with fail
   have hfar:∀ x∈[ac (w.heap.size+1+1) 148 [.func (.func 116) #[] #[.pointer (some ⟨w.heap.size,0,none⟩)],.func (.func 117) #[] #[.pointer (some ⟨w.heap.size,0,none⟩)],.func (.func 118) #[] #[.pointer (some ⟨w.heap.size,0,none⟩)],.func (.func 120) #[] #[.pointer (some ⟨w.heap.size,0,none⟩)],.func (.func 122) #[] #[.pointer (some ⟨w.heap.size,0,none⟩)]],ac (w.heap.size) 9 [.string s]],x.far (some (w.heap.size+1)):=by
    intro x hx
    simp only [List.mem_cons,List.not_mem_nil,or_false] at hx
    rcases hx with rfl | rfl
    ·show some (w.heap.size+1+1)≠some (w.heap.size+1)
     simp
    show some w.heap.size≠some (w.heap.size+1)
    simp
   have HE0:=Lib.hid (H5.out.drop [af (w.heap.size+1) 35 [.int .u8 (a0:Nat),.int .i64 n0,.string ⟨t0.toArray⟩],ac (w.heap.size+1+1) 148 [.func (.func 116) #[] #[.pointer (some ⟨w.heap.size,0,none⟩)],.func (.func 117) #[] #[.pointer (some ⟨w.heap.size,0,none⟩)],.func (.func 118) #[] #[.pointer (some ⟨w.heap.size,0,none⟩)],.func (.func 120) #[] #[.pointer (some ⟨w.heap.size,0,none⟩)],.func (.func 122) #[] #[.pointer (some ⟨w.heap.size,0,none⟩)]],ac (w.heap.size) 9 [.string s]] (by simp))
   have HE:=Lib.hid ((((((HE0.out.set_ (i:=0) (u:=.int .u8 (a1:Nat)) (by omega) hfar).set_ (i:=1) (u:=.int .i64 n1) (by omega) hfar).set_ (i:=2) (u:=.string ⟨t1.toArray⟩) (by omega) hfar).set_ (i:=0) (u:=.int .u8 (a1:Nat)) (by omega) hfar).set_ (i:=1) (u:=.int .i64 n1) (by omega) hfar).set_ (i:=2) (u:=.string ⟨t1.toArray⟩) (by omega) hfar)
   have HV:=keep (HA.out (by first | trivial | rfl))
   clear HA HJ2
   have F9:=HE.out.sees
   simp only [sees,af,ac,aa,Nat.reduceAdd,List.set_cons_succ,List.set_cons_zero] at F9
   obtain ⟨⟨⟨y0,g0⟩,r0,r1,r2,-⟩,-⟩:=F9
   try rw [Exit.noGoto_ret]
   have hv2:=HV.out
   subst hv2
   exact bodyPost_ret (v:=.agg #[.int .u8 (a1:Nat),.int .i64 n1,.string ⟨t1.toArray⟩]) (by simp [results,results73,go_sem,r0,r1,r2]) rfl ⟨rfl,HE.out.bel⟩
  have HV:=keep (HNO.out HJ.out)
  have F2:=sE HQ
  go_wp2_with fail
  have hfar:∀ x∈[ac (w.heap.size+1+1) 148 [.func (.func 116) #[] #[.pointer (some ⟨w.heap.size,0,none⟩)],.func (.func 117) #[] #[.pointer (some ⟨w.heap.size,0,none⟩)],.func (.func 118) #[] #[.pointer (some ⟨w.heap.size,0,none⟩)],.func (.func 120) #[] #[.pointer (some ⟨w.heap.size,0,none⟩)],.func (.func 122) #[] #[.pointer (some ⟨w.heap.size,0,none⟩)]],ac (w.heap.size) 9 [.string s]],x.far (some (w.heap.size+1)):=by
   intro x hx
   simp only [List.mem_cons,List.not_mem_nil,or_false] at hx
   rcases hx with rfl | rfl
   ·show some (w.heap.size+1+1)≠some (w.heap.size+1)
    simp
   show some w.heap.size≠some (w.heap.size+1)
   simp
  have HE0:=Lib.hid (HQ.out.drop [af (w.heap.size+1) 35 [.int .u8 (a0:Nat),.int .i64 n0,.string ⟨t0.toArray⟩],ac (w.heap.size+1+1) 148 [.func (.func 116) #[] #[.pointer (some ⟨w.heap.size,0,none⟩)],.func (.func 117) #[] #[.pointer (some ⟨w.heap.size,0,none⟩)],.func (.func 118) #[] #[.pointer (some ⟨w.heap.size,0,none⟩)],.func (.func 120) #[] #[.pointer (some ⟨w.heap.size,0,none⟩)],.func (.func 122) #[] #[.pointer (some ⟨w.heap.size,0,none⟩)]],ac (w.heap.size) 9 [.string s]] (by simp))
  have HE:=Lib.hid ((((((HE0.out.set_ (i:=0) (u:=.int .u8 3) (by omega) hfar).set_ (i:=1) (u:=.int .i64 0) (by omega) hfar).set_ (i:=2) (u:=.string s) (by omega) hfar).set_ (i:=0) (u:=.int .u8 3) (by omega) hfar).set_ (i:=1) (u:=.int .i64 0) (by omega) hfar).set_ (i:=2) (u:=.string s) (by omega) hfar)
  have F9:=HE.out.sees
  simp only [sees,af,ac,aa,Nat.reduceAdd,List.set_cons_succ,List.set_cons_zero] at F9
  obtain ⟨⟨⟨y0,g0⟩,r0,r1,r2,-⟩,-⟩:=F9
  try rw [Exit.noGoto_ret]
  have hv2:=HV.out
  subst hv2
  exact bodyPost_ret (v:=.agg #[.int .u8 3,.int .i64 0,.string s]) (by simp [results,results73,go_sem,r0,r1,r2]) rfl ⟨rfl,HE.out.bel⟩
