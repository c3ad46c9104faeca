/- ShowFormulas: the walk. ShowExamples: the numbers below a node. -/
import Derived.Test.YthdmpajkacmkdaaGreatDoorGRds
import Derived.Test.YthdmpajkacmkdaaGreatDoorGTg
import Derived.Test.YthdmpajkacmkdaaGreatDoorGFew
import Derived.Test.YthdmpajkacmkdaaGreatDoorGParP
import Derived.Test.YthdmpajkacmkdaaGreatDoorGRol
import Derived.Test.YthdmpajkacmkdaaGreatDoorGSxp
import Derived.Test.YthdmpajkacmkdaaGreatDoorGNdG
namespace Go.Proofs.YthdmpajkacmkdaaGreatDoor
set_option maxRecDepth 100000
set_option maxHeartbeats 8000000
open Go.RowKit Go.Proofs.Tryz
theorem kf (t0:List NdA) (a:Option Addr) (c:Nat) (w:World) (hr:ax w a 11 (t0.map bf)) (hnc:t0.length≤c) (hc:c≤maxLen) (hin:∀ n∈t0,iU n) (he:cn w) :
  Calls prog 5 #[.slice a t0.length c] w fun e w'=>e=.returned (.bool true)∧Below w.heap.size w w':=by
 have HE:=keep he
 have HFW:=keep (BH t0 a c w hr hnc hc)
 have HSZ:=keep (AG hin)
 have HLO:=keep (show ∀ n∈few t0,-9223372036854775808≤n.vn∧n.fn≤255 from fun n hn=>⟨((lP hin n hn).1).num.1,((lP hin n hn).1).fnb⟩)
 have HFF:=keep (xI (qn t0) fun n hn=>(lP hin n hn).2)
 have HL3:=keep (qn t0)
 obtain ⟨n0,hn0⟩:=ex (t0.length)
 rw [hn0] at HFW ⊢
 generalize few t0=t at HFW HSZ HL3 HLO HFF
 clear hr hnc hc hin he hn0
 go_enter func5,ntmps5
 go_wp2_with fail
 refine HFW.out.mono ?_
 rintro e w1 ⟨u,rfl,hown,hb⟩
 obtain ⟨a1,c1,rfl,hlc,hcm,hrow⟩:=ly hown
 have HR:=keep hrow
 have H1:=Lib.hid ((Ok.start w).below hb)
 have HFW2:=keep (BH t a1 c1 w1 hrow hlc hcm)
 rw [HFF.out] at HFW2
 clear hown hrow hb HFW hlc hcm
 go_wp2_with fail
 refine HFW2.out.mono ?_
 rintro e w2 ⟨u,rfl,hown,hb⟩
 obtain ⟨b1,d1,rfl,-,-,hrow⟩:=ly hown
 have HR1:=keep (HR.out.below hb)
 have HR2:=keep hrow
 have H2:=Lib.hid (H1.out.below hb)
 have HE2:=keep (HE.out.below H2.out.bel)
 have HLN:=keep (show (olS t).length≤1000 by
  by_cases hc:aC t=0
  ·obtain ⟨-,hk,-,-⟩:=jQ hc HSZ.out.num
   rw [ki hc,List.length_map,(kj _ hk.ndc (jX hc)).1]
   have:=hk.len
   omega
  rw [nQ hc]; exact Nat.zero_le _)
 clear hown hrow hb HFW2 HR H1 HE HFF
 obtain ⟨X,hX⟩:∃ X:ByteArray,⟨(fP t).1.toArray⟩=X:=⟨_,rfl⟩
 obtain ⟨E,hE⟩:=ex ((fP t).2)
 obtain ⟨G,hG⟩:=ex (aC t)
 obtain ⟨L,hL⟩:=ex (olS t)
 have HA:=keep (fun (W:World) (h1:ax W b1 11 (t.map bf)) (h2:cn W)=>jM t b1 d1 W HSZ.out ⟨h1,h2⟩)
 have HB:=keep (fun (W:World) (h1:ax W a1 11 (t.map bf))=>mD t a1 c1 W HSZ.out HLO.out h1)
 have HC:=keep (fun (W:World) (h1:ax W b1 11 (t.map bf)) (h2:cn W)=>jN t b1 d1 W HSZ.out ⟨h1,h2⟩)
 have HD:=keep (fun (W:World) (h1:ax W a1 11 (t.map bf))=>mE t a1 c1 W HSZ.out HLO.out h1)
 have HT:=keep (fun (W:World) (h1:ax W b1 11 (t.map bf)) (h2:ax W a1 11 (t.map bf))=>ox t t b1 a1 d1 c1 W HSZ.out.len HSZ.out.len h1 h2)
 unfold oj at HC HD
 rw [hX,hE] at HA HB
 rw [hG,hL] at HC HD
 rw [hL] at HLN
 rw [rO t] at HT
 clear hX hE hG hL
 obtain ⟨tn,htn⟩:=ex (t.length)
 rw [htn] at HA HB HC HD HT ⊢
 clear htn
 have HB2:=Lib.hid H2.out.bel
 clear H2
 go_wp2_with fail
 go_loopw [4] (fun rv wr=>∃ r:Nat,r≤2∧rv=.int .i64 (r:Int)∧Hid (Ok w2 [] wr)) (fun rv _=>2 - (intOf rv).toNat)
 case atStart=>exact ⟨0,by omega,rfl,Lib.hid (Ok.start w2)⟩
 case round =>
  obtain ⟨r,hr2,rfl,HQ⟩:=hrel
  obtain ⟨wq,rfl⟩:∃ wq:World,wq=wr:=⟨_,rfl⟩
  by_cases hlt:(r:Int)<2
  ·go_wp2_with fail
   refine cM (HA.out wq (HR2.out.below HQ.out.bel) (HE2.out.below HQ.out.bel)) HQ fun w3 H3=>?_
   clear HQ
   go_wp2_with fail
   refine cM (HB.out w3 (HR1.out.below H3.out.bel)) H3 fun w4 H4=>?_
   clear H3
   go_wp2_with fail
   refine (HC.out w4 (HR2.out.below H4.out.bel) (HE2.out.below H4.out.bel)).mono ?_
   rintro e w5 ⟨v,rfl,hown,hb⟩
   have H5:=Lib.hid (ai.of_new H4.out hb hown)
   clear hb hown H4
   go_wp2_with fail
   refine (HD.out w5 (HR1.out.below H5.out.ok.bel)).mono ?_
   rintro e w6 ⟨v2,rfl,hown,hb⟩
   obtain ⟨a6,c6,rfl,-,hrow6⟩:=mh hown
   have HM:=keep hrow6
   have H6:=Lib.hid (H5.out.below hb)
   clear hb hown hrow6 H5
   obtain ⟨a5,c5,hv,-,hrow5⟩:=mh H6.out.own
   subst hv
   have HEQ:=keep (lN L a5 a6 c5 c6 w6 (by have:=HLN.out; omega) hrow5 HM.out)
   obtain ⟨ln,hln⟩:=ex (L.length)
   rw [hln] at HEQ H6 HLN ⊢
   have HLL:=keep hln
   clear hrow5 HM hln
   go_wp2_with fail
   refine HEQ.out.mono ?_
   rintro e w7 ⟨rfl,hb⟩
   have H7:=Lib.hid (H6.out.below hb)
   clear hb H6 HEQ
   go_wp2_with fail
   refine cR (HT.out w7 (HR2.out.below H7.out.ok.bel) (HR1.out.below H7.out.ok.bel)) H7 fun w8 H8=>?_
   clear H7
   go_wp2_with fail
   have hl1:(ln:Int)≤1000:=by have:=HLN.out; omega
   go_loopw [13] (fun kv wr=>∃ (k:Nat) (xs:List Value),k≤ln∧kv=.int .i64 (k:Int)∧xs.length=ln∧Hid (ai w2 [] 9 1 (.slice a5 ln c5) ln xs wr)) (fun kv _=>ln - (intOf kv).toNat)
   case atStart=>exact ⟨0,bH L,Nat.zero_le _,rfl,by unfold bH; rw [List.length_map]; exact HLL.out,H8⟩
   case round =>
    clear H8
    obtain ⟨k,xs,hk,rfl,hxs,HK⟩:=hrel
    obtain ⟨wk,rfl⟩:∃ wk:World,wk=wr:=⟨_,rfl⟩
    by_cases hkl:(k:Int)<(ln:Int)
    ·obtain ⟨g,cap,e4,hgl,-⟩:=HK.out.own.form (by omega)
     injection e4 with e5 e6 e7
     subst e5 e7
     clear e6
     obtain ⟨old,hold⟩:∃ old,xs[k]?=some old:=⟨_,List.getElem?_eq_getElem (by omega)⟩
     have c5:=HK.out.own.cells (g:=g) rfl k _ hold
     rw [fV] at c5
     have f5:=HK.out.own.frozenAt k
     have HS:=Lib.hid (HK.out.stored_row k (.string ⟨#[120]⟩))
     have hglt:=(HK.out.own.lt g rfl).2
     have HXL:=keep hxs
     clear hxs hgl hold
     go_wp2_with fail
     go_roundw
     case rel=>exact ⟨k+1,xs.set k (.string ⟨#[120]⟩),by omega,by go_num,by rw [List.length_set]; exact HXL.out,HS⟩
     case measure=>simp [intOf]; omega
    obtain rfl:k=ln:=by omega
    go_wp2_with fail
    go_roundw
    case rel=>exact ⟨r+1,by omega,by go_num,Lib.hid HK.out.ok⟩
    case measure=>simp [intOf]; omega
  obtain rfl:r=2:=by omega
  go_wp2_with fail
  refine cM (gQ wq (HE2.out.below HQ.out.bel)) HQ fun w9 H9=>?_
  clear HQ
  go_wp2_with fail
  go_ret
  exact ⟨rfl,an HB2.out H9.out.bel⟩
set_option maxRecDepth 100000
set_option maxHeartbeats 8000000
def nmN (n:Int):NdA:=⟨1,1,n,[],R4.zero,0,0,0⟩
def rtN (k:Nat) (o:Int):NdA:=⟨k,0,0,[],R4.zero,o,0,0⟩
def iW (k:Nat):List NdA:=if k=6 then [nmN 10000,nmN 20000] else [nmN 10000]
theorem mR (k:Nat) (o:Int) (w:World) :
  Calls prog 4 #[.agg #[.int .u8 (k:Nat),.int .u8 0,.int .i64 0,.string ⟨#[]⟩,.int .i64 0,.int .i64 0,.int .i64 0,.int .i64 0,.int .i64 o,.int .u8 0,.int .i64 0]] w fun e w'=>∃ g c,e=.returned (.slice (some ⟨g,0,none⟩) (iW k).length c)∧w'.ownsRow w.heap.size 27 11 (.slice (some ⟨g,0,none⟩) (iW k).length c) (iW k).length (ak (iW k))∧Below w.heap.size w w':=by
 obtain ⟨i0,hi,hz0,hz1,hz2⟩:=info_parts iy
 have HB:=keep (ai.of_new ((Ok.start w).alloc_obj (.cells #[.int .u8 (k:Nat),.int .u8 0,.int .i64 0,.string ⟨#[]⟩,.int .i64 0,.int .i64 0,.int .i64 0,.int .i64 0,.int .i64 o,.int .u8 0,.int .i64 0] 27)) ((Below.refl _ _).alloc (Nat.le_refl _) _) (World.ownsRow_lit (base:=(w.alloc (.cells #[.int .u8 (k:Nat),.int .u8 0,.int .i64 0,.string ⟨#[]⟩,.int .i64 0,.int .i64 0,.int .i64 0,.int .i64 0,.int .i64 o,.int .u8 0,.int .i64 0] 27)).heap.size) (e:=27) (size:=11) (w.alloc (.cells #[.int .u8 (k:Nat),.int .u8 0,.int .i64 0,.string ⟨#[]⟩,.int .i64 0,.int .i64 0,.int .i64 0,.int .i64 0,.int .i64 o,.int .u8 0,.int .i64 0] 27)) #[.int .u8 1,.int .u8 1,.int .i64 10000,.string ⟨#[]⟩,.int .i64 0,.int .i64 0,.int .i64 0,.int .i64 0,.int .i64 0,.int .u8 0,.int .i64 0] 1 (Nat.le_refl _) (by decide) rfl))
 by_cases h6:k=6
 ·subst h6
  have HL:=keep (show (iW 6).length=2∧ak (iW 6)=[.int .u8 1,.int .u8 1,.int .i64 10000,.string ⟨#[]⟩,.int .i64 0,.int .i64 0,.int .i64 0,.int .i64 0,.int .i64 0,.int .u8 0,.int .i64 0]++[.int .u8 1,.int .u8 1,.int .i64 20000,.string ⟨#[]⟩,.int .i64 0,.int .i64 0,.int .i64 0,.int .i64 0,.int .i64 0,.int .u8 0,.int .i64 0] from ⟨rfl,rfl⟩)
  rw [HL.out.1,HL.out.2]
  go_enter func4,ntmps4
  have H9:=Lib.hid (HB.out.alloc_obj (.cells #[.int .u8 1,.int .u8 1,.int .i64 20000,.string ⟨#[]⟩,.int .i64 0,.int .i64 0,.int .i64 0,.int .i64 0,.int .i64 0,.int .u8 0,.int .i64 0] 27))
  rw [show ∀ x,(w.alloc x).heap.size=w.heap.size+1 from fun _=>by simp] at H9
  go_wp2_with (at_builtin; refine wpList_append_lies _ rfl _ _ _ rfl w.heap.size 27 i0 _ 11 96 underlying28 hi hz0 hz1 hz2 rfl (by omega) _ _ _ rfl H9.out.own ⟨_,0,none⟩ 1 1 [.int .u8 1,.int .u8 1,.int .i64 20000,.string ⟨#[]⟩,.int .i64 0,.int .i64 0,.int .i64 0,.int .i64 0,.int .i64 0,.int .u8 0,.int .i64 0] rfl rfl (World.news_of_block (cs:=#[.int .u8 1,.int .u8 1,.int .i64 20000,.string ⟨#[]⟩,.int .i64 0,.int .i64 0,.int .i64 0,.int .i64 0,.int .i64 0,.int .u8 0,.int .i64 0]) (t:=27) (fr:=(0,0)) (by simpa using heap_alloc_new ((w.alloc (.cells #[.int .u8 6,.int .u8 0,.int .i64 0,.string ⟨#[]⟩,.int .i64 0,.int .i64 0,.int .i64 0,.int .i64 0,.int .i64 o,.int .u8 0,.int .i64 0] 27)).alloc (.cells #[.int .u8 1,.int .u8 1,.int .i64 10000,.string ⟨#[]⟩,.int .i64 0,.int .i64 0,.int .i64 0,.int .i64 0,.int .i64 0,.int .u8 0,.int .i64 0] 27)) (.cells #[.int .u8 1,.int .u8 1,.int .i64 20000,.string ⟨#[]⟩,.int .i64 0,.int .i64 0,.int .i64 0,.int .i64 0,.int .i64 0,.int .u8 0,.int .i64 0] 27))) (by simp [Value.oneCell']) (by omega) (by unfold maxLen; omega) (by omega) H9.out.ok.bel.size _ rfl ?_; intro g3 cap3 w3 hown3 hgrow3 hat3 hlt3)
  go_ret
  have h9:=H9.out.appended hown3 hgrow3 hat3
  exact ⟨g3,cap3,rfl,h9.own,h9.ok.bel⟩
 have HL:=keep (show (iW k).length=1∧ak (iW k)=[.int .u8 1,.int .u8 1,.int .i64 10000,.string ⟨#[]⟩,.int .i64 0,.int .i64 0,.int .i64 0,.int .i64 0,.int .i64 0,.int .u8 0,.int .i64 0] from by unfold iW; rw [if_neg h6]; exact ⟨rfl,rfl⟩)
 rw [HL.out.1,HL.out.2]
 have b6:((k:Int) == 6)=false:=by simp; omega
 clear h6
 go_enter func4,ntmps4
 go_wp2_with fail
 go_ret
 exact ⟨_,_,rfl,by simpa using HB.out.own,HB.out.ok.bel⟩
def vN (l:List UInt8):NdA:=⟨1,3,0,l,R4.zero,0,0,0⟩
theorem z7 {l:List UInt8} (h:l.length≤maxLen):iU (vN l):=⟨⟨by show _≤(0:Int); decide,by show (0:Int)≤_; decide⟩,h,Nat.zero_le _⟩
theorem sb (n:Int) (h : -9223372036854775808≤n∧n≤9223372036854775807):iU (nmN n):=⟨h,Nat.zero_le _,Nat.zero_le _⟩
theorem sq (k:Nat) (o:Int):iU (rtN k o):=⟨⟨by show _≤(0:Int); decide,by show (0:Int)≤_; decide⟩,Nat.zero_le _,Nat.zero_le _⟩
theorem mI (k:Nat):iW k=[nmN 10000,nmN 20000]∨iW k=[nmN 10000]:=by
 unfold iW
 by_cases h:k=6
 ·exact .inl (if_pos h)
 exact .inr (if_neg h)
theorem Ad {k:Nat} {l:List NdA} (h:iW k=l):(∀ n∈l,iU n)∧1≤l.length∧l.length≤2:=by
 have h1:=sb 10000 (by decide)
 have h2:=sb 20000 (by decide)
 rcases mI k with e | e <;> rw [e] at h <;> subst h <;> exact ⟨by simp [h1,h2],by decide,by decide⟩
theorem j6 {l m:List NdA} (h:∀ n∈l,iU n) (h2:∀ n∈m,iU n):∀ n∈l++m,iU n:=List.forall_mem_append.2 ⟨h,h2⟩
theorem gO {n:NdA} (h:iU n):∀ x∈[n],iU x:=by simp [h]
theorem fQ {w0 w:World} {ps:List aZ} {v:Value} {n:Nat} {xs:List Value} (h:ai w0 ps 27 11 v n xs w) (he:cn w0) (t:List NdA) (hn:t.length=n) (hin:∀ x∈t,iU x) (hx:ak t=xs) :
  Calls prog 5 #[v] w fun e w'=>e=.returned (.bool true)∧Below w.heap.size w w':=by
 subst hn hx
 obtain ⟨a,c,rfl,h1,h2,h3⟩:=ly h.own
 exact kf t a c w h3 h1 h2 hin (he.below h.ok.bel)
def jz (j:Nat):List UInt8:=List.replicate j 120++List.replicate (257 - j) 0
theorem vp (n:Nat):(madeCells (Value.int .u8 0).cells (n * 1)).toList=au (List.replicate n 0):=by
 apply List.ext_getElem?
 intro i
 rw [Nat.mul_one]
 unfold madeCells au
 by_cases h:i<n
 ·simp [h,Value.cells,Nat.mod_one]
 simp [h]
theorem vo:(madeCells (Value.int .u8 0).cells (257 * 1)).toList=au (jz 0):=vp 257
theorem AP {j:Nat} (h:j<257):(au (jz j))[j]?=some (.int .u8 0):=by
 unfold au jz
 rw [List.getElem?_map,List.getElem?_append_right (by rw [List.length_replicate]; exact Nat.le_refl _),List.length_replicate,Nat.sub_self,show 257 - j=(257 - j - 1)+1 by omega,List.replicate_succ]
 rfl
theorem xU {j:Nat} (h:j<257):(au (jz j)).set j (.int .u8 120)=au (jz (j+1)):=by
 unfold au
 rw [show (Value.int .u8 120)=(fun b:UInt8=>Value.int .u8 b.toNat) 120 from rfl,← List.map_set]
 congr 1
 unfold jz
 rw [List.set_append_right _ _ (by rw [List.length_replicate]; exact Nat.le_refl _),List.length_replicate,Nat.sub_self,show 257 - j=(257 - (j+1))+1 by omega,List.replicate_succ,List.set_cons_zero,List.replicate_succ',List.append_assoc]
 rfl
theorem uz {w:World} {g:Nat} (h:w.ownsRow g 5 1 (.slice (some ⟨g,0,none⟩) 257 257) 257 (au (jz 257))) (m:Nat) (hm:m≤257) :
  (convert 32 9 (.slice (some ⟨g,0,none⟩) m 257)).run prog w=.ok (.string ⟨(List.replicate m 120).toArray⟩) w:=by
 have hc:=@World.ownsRow.cells _ _ _ _ _ _ _ h
 have h9:=run_convert_bytes_back w 32 9 5 ⟨g,0,none⟩ 257 (List.replicate m 120) underlying32 underlying5 underlying9 (fun j hj=>by
  rw [List.length_replicate] at hj
  refine hc rfl j _ ?_
  unfold au jz
  rw [List.getElem?_map,List.getElem?_append_left (by rw [List.length_replicate]; omega),List.getElem_replicate,List.getElem?_replicate,if_pos (show j<257 by omega)]
  rfl)
 rw [List.length_replicate] at h9
 exact h9
