/- The statement's own 'reads' and 'awake' of chapter 10. The kit's CopyTree; the statements' Few. The reference's Under: the nodes directly below one, by the parents of all. Plain: the parents of a tree's nodes, and what stands below a node by them. No program stands here. -/
import Derived.Test.YtdplcdhpnmcdjaaGreatDoorFOut
import Derived.Test.YtdplcdhpnmcdjaaGreatDoorFTxt
import Derived.Test.YtdplcdhpnmcdjaaGreatDoorFTg
import Derived.Test.YtdplcdhpnmcdjaaGreatDoorFGiv
import Derived.Test.YtdplcdhpnmcdjaaGreatDoorFShc
namespace Go.Proofs.YtdplcdhpnmcdjaaGreatDoor
set_option maxRecDepth 100000
set_option maxHeartbeats 8000000
open Go.RowKit Go.Proofs.Tryz
theorem o9 {L:List UInt8} {t:List Nd} {a:Int} (h:bT L=(t,a,0)) (hl:(ck t).length≤256):fH (t.map Nd.any)=(ck t,0):=by
 obtain ⟨-,hc,-⟩:=hH h
 rw [lN hc (by rw [jf]; omega),jf]
theorem cE (s want:ByteArray) (t:List Nd) (w:World) (hs:s.size≤1000) (hf:bT s.data.toList=(t,0,0)) (hl:(ck t).length≤256) (hx:(⟨(ck t).toArray⟩:ByteArray)=want) (he:cH w) :
  Calls prog 33 #[.string s,.string want] w fun e w'=>e=.returned (.bool true)∧Below w.heap.size w w':=by
 have HF:=keep hf
 have HS:=keep (show fH (t.map Nd.any)=(ck t,0) from o9 hf hl)
 have HX:=keep hx
 have HE:=keep he
 obtain ⟨-,hck,hsz,-⟩:=hH hf
 have HSZ:=keep hsz
 have HLN:=keep (show (t.map Nd.any).length=t.length from List.length_map ..)
 clear hf hx he hck hsz hl
 go_enter func33,ntmps33
 go_wp2_with fail
 refine (iA s _ (by omega) HE.out.1).mono ?_
 rintro e w1 ⟨v,rfl,hown,hb⟩
 rw [HF.out] at hown ⊢
 simp only [] at hown ⊢
 obtain ⟨a,c,rfl⟩:=aO hown
 obtain ⟨-,hrow⟩:=o5 hown
 have HR:=keep hrow
 have HB:=Lib.hid hb
 clear hown hrow hb HF
 go_wp2_with fail
 rw [← HLN.out]
 refine (jt (t.map Nd.any) a c w1 HSZ.out ⟨by rw [fk]; exact HR.out,HE.out.below HB.out⟩).mono ?_
 rintro e w2 ⟨rfl,hb⟩
 rw [HS.out]
 simp only []
 rw [HX.out]
 have HB2:=Lib.hid (HB.out.trans (hb.mono HB.out.size))
 clear hb HB HR HS HX HSZ HLN
 go_wp2_with fail
 go_ret
 exact ⟨by simp,HB2.out⟩
theorem vp:bT [40,32,49,43,50,32,41,42,51]=([bc 10000,bc 20000,aH 1,bc 30000,aH 3],0,0):=by kernel_rfl
theorem oK:ck [bc 10000,bc 20000,aH 1,bc 30000,aH 3]=[40,49,43,50,41,42,51]:=by kernel_rfl
theorem Co (w:World) (he:cH w):Calls prog 33 #[.string ⟨#[40,32,49,43,50,32,41,42,51]⟩,.string ⟨#[40,49,43,50,41,42,51]⟩] w fun e w'=>e=.returned (.bool true)∧Below w.heap.size w w' :=
 cE ⟨#[40,32,49,43,50,32,41,42,51]⟩ ⟨#[40,49,43,50,41,42,51]⟩ _ w (by decide) vp (by rw [oK]; decide) (by rw [oK]) he
theorem vq:bT [49,45,40,50,45,51,41]=([bc 10000,bc 20000,bc 30000,aH 2,aH 2],0,0):=by kernel_rfl
theorem oL:ck [bc 10000,bc 20000,bc 30000,aH 2,aH 2]=[49,45,40,50,45,51,41]:=by kernel_rfl
theorem Cp (w:World) (he:cH w):Calls prog 33 #[.string ⟨#[49,45,40,50,45,51,41]⟩,.string ⟨#[49,45,40,50,45,51,41]⟩] w fun e w'=>e=.returned (.bool true)∧Below w.heap.size w w' :=
 cE ⟨#[49,45,40,50,45,51,41]⟩ ⟨#[49,45,40,50,45,51,41]⟩ _ w (by decide) vq (by rw [oL]; decide) (by rw [oL]) he
theorem vr:bT [40,49,45,50,41,45,51]=([bc 10000,bc 20000,aH 2,bc 30000,aH 2],0,0):=by kernel_rfl
theorem oM:ck [bc 10000,bc 20000,aH 2,bc 30000,aH 2]=[49,45,50,45,51]:=by kernel_rfl
theorem Cq (w:World) (he:cH w):Calls prog 33 #[.string ⟨#[40,49,45,50,41,45,51]⟩,.string ⟨#[49,45,50,45,51]⟩] w fun e w'=>e=.returned (.bool true)∧Below w.heap.size w w' :=
 cE ⟨#[40,49,45,50,41,45,51]⟩ ⟨#[49,45,50,45,51]⟩ _ w (by decide) vr (by rw [oM]; decide) (by rw [oM]) he
theorem vu:bT [40,45,50,41,94,50]=([bc 20000,ci,bc 20000,aH 5],0,0):=by kernel_rfl
theorem oN:ck [bc 20000,ci,bc 20000,aH 5]=[40,45,50,41,94,50]:=by kernel_rfl
theorem Cr (w:World) (he:cH w):Calls prog 33 #[.string ⟨#[40,45,50,41,94,50]⟩,.string ⟨#[40,45,50,41,94,50]⟩] w fun e w'=>e=.returned (.bool true)∧Below w.heap.size w w' :=
 cE ⟨#[40,45,50,41,94,50]⟩ ⟨#[40,45,50,41,94,50]⟩ _ w (by decide) vu (by rw [oN]; decide) (by rw [oN]) he
theorem vw:bT [45,40,50,94,50,41]=([bc 20000,bc 20000,aH 5,ci],0,0):=by kernel_rfl
theorem oO:ck [bc 20000,bc 20000,aH 5,ci]=[45,50,94,50]:=by kernel_rfl
theorem Cs (w:World) (he:cH w):Calls prog 33 #[.string ⟨#[45,40,50,94,50,41]⟩,.string ⟨#[45,50,94,50]⟩] w fun e w'=>e=.returned (.bool true)∧Below w.heap.size w w' :=
 cE ⟨#[45,40,50,94,50,41]⟩ ⟨#[45,50,94,50]⟩ _ w (by decide) vw (by rw [oO]; decide) (by rw [oO]) he
theorem vx:bT [50,94,40,51,94,50,41]=([bc 20000,bc 30000,bc 20000,aH 5,aH 5],0,0):=by kernel_rfl
theorem oP:ck [bc 20000,bc 30000,bc 20000,aH 5,aH 5]=[50,94,51,94,50]:=by kernel_rfl
theorem Ct (w:World) (he:cH w):Calls prog 33 #[.string ⟨#[50,94,40,51,94,50,41]⟩,.string ⟨#[50,94,51,94,50]⟩] w fun e w'=>e=.returned (.bool true)∧Below w.heap.size w w' :=
 cE ⟨#[50,94,40,51,94,50,41]⟩ ⟨#[50,94,51,94,50]⟩ _ w (by decide) vx (by rw [oP]; decide) (by rw [oP]) he
theorem vy:bT [40,50,94,51,41,94,50]=([bc 20000,bc 30000,aH 5,bc 20000,aH 5],0,0):=by kernel_rfl
theorem oQ:ck [bc 20000,bc 30000,aH 5,bc 20000,aH 5]=[40,50,94,51,41,94,50]:=by kernel_rfl
theorem Cu (w:World) (he:cH w):Calls prog 33 #[.string ⟨#[40,50,94,51,41,94,50]⟩,.string ⟨#[40,50,94,51,41,94,50]⟩] w fun e w'=>e=.returned (.bool true)∧Below w.heap.size w w' :=
 cE ⟨#[40,50,94,51,41,94,50]⟩ ⟨#[40,50,94,51,41,94,50]⟩ _ w (by decide) vy (by rw [oQ]; decide) (by rw [oQ]) he
theorem vz:bT [40,53,37,41,94,50]=([bc 50000,bR,bc 20000,aH 5],0,0):=by kernel_rfl
theorem oR:ck [bc 50000,bR,bc 20000,aH 5]=[53,37,94,50]:=by kernel_rfl
theorem Cv (w:World) (he:cH w):Calls prog 33 #[.string ⟨#[40,53,37,41,94,50]⟩,.string ⟨#[53,37,94,50]⟩] w fun e w'=>e=.returned (.bool true)∧Below w.heap.size w w' :=
 cE ⟨#[40,53,37,41,94,50]⟩ ⟨#[53,37,94,50]⟩ _ w (by decide) vz (by rw [oR]; decide) (by rw [oR]) he
theorem vA:bT [40,45,53,41,37]=([bc 50000,ci,bR],0,0):=by kernel_rfl
theorem oS:ck [bc 50000,ci,bR]=[40,45,53,41,37]:=by kernel_rfl
theorem Cw (w:World) (he:cH w):Calls prog 33 #[.string ⟨#[40,45,53,41,37]⟩,.string ⟨#[40,45,53,41,37]⟩] w fun e w'=>e=.returned (.bool true)∧Below w.heap.size w w' :=
 cE ⟨#[40,45,53,41,37]⟩ ⟨#[40,45,53,41,37]⟩ _ w (by decide) vA (by rw [oS]; decide) (by rw [oS]) he
theorem vB:bT [115,117,109,40,97,49,58,98,50,44,34,97,34,41]=([aK ⟨1,1,2,2⟩,(⟨1,3,0,[97],R4.zero,0,0,0⟩:Nd),(⟨7,0,0,[],R4.zero,0,9,2⟩:Nd)],0,0):=by kernel_rfl
theorem oT:ck [aK ⟨1,1,2,2⟩,(⟨1,3,0,[97],R4.zero,0,0,0⟩:Nd),(⟨7,0,0,[],R4.zero,0,9,2⟩:Nd)]=[83,85,77,40,65,49,58,66,50,44,34,97,34,41]:=by kernel_rfl
theorem Cx (w:World) (he:cH w):Calls prog 33 #[.string ⟨#[115,117,109,40,97,49,58,98,50,44,34,97,34,41]⟩,.string ⟨#[83,85,77,40,65,49,58,66,50,44,34,97,34,41]⟩] w fun e w'=>e=.returned (.bool true)∧Below w.heap.size w w' :=
 cE ⟨#[115,117,109,40,97,49,58,98,50,44,34,97,34,41]⟩ ⟨#[83,85,77,40,65,49,58,66,50,44,34,97,34,41]⟩ _ w (by decide) vB (by rw [oT]; decide) (by rw [oT]) he
def awT:List Nd:=[aK ⟨1,1,2,2⟩,bc 50000,(⟨7,0,0,[],R4.zero,0,9,2⟩:Nd),bc 20000,aH 3]
def awL:List (List UInt8):=[[42],[32,32,83,85,77],[32,32,32,32,65,49,58,66,50],[32,32,32,32,53],[32,32,50]]
theorem mU:bT [83,85,77,40,65,49,58,66,50,44,53,41,42,50]=(awT,0,0):=by kernel_rfl
theorem tU:(oF awT).map eH=awL:=by kernel_rfl
theorem Bb:olS (awT.map Nd.any)=awL:=by
 obtain ⟨-,hc,-⟩:=hH mU
 rw [jR hc,jf,tU]
theorem Ap:iO 4 4 []=([35,78,47,65],0):=by
 rw [je (.inr (.inr (.inr ⟨rfl,by decide,rfl⟩)))]
 kernel_rfl
theorem uO:iO 0 0 []=([],2):=qo (by rintro (⟨h,-⟩ | ⟨h,-⟩ | ⟨h,-⟩ | ⟨h,-⟩) <;> cases h)
theorem vP {w:World} {b:Nat} {t:TypeId} (l:List (List UInt8)) (h:Blk w b t (bH l).toArray):ap w (some ⟨b,0,none⟩) 1 (qQ l):=by
 intro _
 refine ⟨b,0,rfl,h.lt,fun i r hi j v hj => ?_⟩
 unfold qQ at hi
 rw [List.getElem?_map] at hi
 obtain ⟨x,hx,rfl⟩:=Option.map_eq_some_iff.1 hi
 have hj0:j=0:=by
  rcases j with - | j
  ·rfl
  cases hj
 subst hj0
 simp only [List.getElem?_cons_zero,Option.some.injEq] at hj
 subst hj
 rw [h.cell]
 simp only [List.getElem?_toArray,Nat.zero_add,Nat.mul_one,Nat.add_zero]
 unfold bH
 rw [List.getElem?_map,hx]
 rfl
theorem oh (w:World) (he:cH w) :
  Calls prog 14 #[] w fun e w'=>e=.returned (.bool true)∧Below w.heap.size w w':=by
 have HE:=keep he
 obtain ⟨-,hck,hsz,-⟩:=hH mU
 have HSZ:=keep hsz
 have HCK:=keep hck
 have HOL:=keep Bb
 clear he hck hsz
 go_enter func14,ntmps14
 go_wp2_with fail
 refine (iA _ _ (by decide) HE.out.1).mono ?_
 rintro e w1 ⟨v,rfl,hown,hb⟩
 rw [show bT (({ data:=#[83,85,77,40,65,49,58,66,50,44,53,41,42,50] }:ByteArray).data.toList)=_ from mU] at hown ⊢
 simp only [] at hown ⊢
 obtain ⟨a,c,rfl⟩:=aO hown
 obtain ⟨-,hrow⟩:=o5 hown
 have HR:=keep hrow
 have H1:=Lib.hid ((Ok.start w).below hb)
 clear hown hrow hb
 go_wp2_with fail
 refine (ju (awT.map Nd.any) a c w1 HSZ.out ⟨by rw [fk]; exact HR.out,HE.out.below H1.out.bel⟩).mono ?_
 rintro e w2 ⟨v,rfl,hown,hb⟩
 rw [HCK.out]
 rw [HOL.out] at hown
 obtain ⟨a2,c2,rfl,-,hrow⟩:=lS hown
 have H2:=Lib.hid (H1.out.below hb)
 have HRL:=keep hrow
 have G2:=Lib.hid (Ok.start w2)
 clear hown hrow hb HR H1
 go_wp2_with fail
 refine (fZ 4 4 [] (by decide) (by decide) w2 (HE.out.below H2.out.bel)).mono ?_
 rintro e w3 ⟨rfl,hb⟩
 rw [Ap]
 have H3:=Lib.hid (H2.out.below hb)
 have G3:=Lib.hid (G2.out.below hb)
 clear H2 G2 hb
 go_wp2_with fail
 refine (fZ 0 0 [] (by decide) (by decide) w3 (HE.out.below H3.out.bel)).mono ?_
 rintro e w4 ⟨rfl,hb⟩
 rw [uO]
 have H4:=Lib.hid (H3.out.below hb)
 have G4:=Lib.hid (G3.out.below hb)
 clear H3 G3 hb
 go_wp2_with fail
 refine (Co w4 (HE.out.below H4.out.bel)).mono ?_
 rintro e w5 ⟨rfl,hb⟩
 have H5:=Lib.hid (H4.out.below hb)
 have G5:=Lib.hid (G4.out.below hb)
 clear H4 G4 hb
 go_wp2_with fail
 refine (Cp w5 (HE.out.below H5.out.bel)).mono ?_
 rintro e w6 ⟨rfl,hb⟩
 have H6:=Lib.hid (H5.out.below hb)
 have G6:=Lib.hid (G5.out.below hb)
 clear H5 G5 hb
 go_wp2_with fail
 refine (Cq w6 (HE.out.below H6.out.bel)).mono ?_
 rintro e w7 ⟨rfl,hb⟩
 have H7:=Lib.hid (H6.out.below hb)
 have G7:=Lib.hid (G6.out.below hb)
 clear H6 G6 hb
 go_wp2_with fail
 refine (Cr w7 (HE.out.below H7.out.bel)).mono ?_
 rintro e w8 ⟨rfl,hb⟩
 have H8:=Lib.hid (H7.out.below hb)
 have G8:=Lib.hid (G7.out.below hb)
 clear H7 G7 hb
 go_wp2_with fail
 refine (Cs w8 (HE.out.below H8.out.bel)).mono ?_
 rintro e w9 ⟨rfl,hb⟩
 have H9:=Lib.hid (H8.out.below hb)
 have G9:=Lib.hid (G8.out.below hb)
 clear H8 G8 hb
 go_wp2_with fail
 refine (Ct w9 (HE.out.below H9.out.bel)).mono ?_
 rintro e w10 ⟨rfl,hb⟩
 have H10:=Lib.hid (H9.out.below hb)
 have G10:=Lib.hid (G9.out.below hb)
 clear H9 G9 hb
 go_wp2_with fail
 refine (Cu w10 (HE.out.below H10.out.bel)).mono ?_
 rintro e w11 ⟨rfl,hb⟩
 have H11:=Lib.hid (H10.out.below hb)
 have G11:=Lib.hid (G10.out.below hb)
 clear H10 G10 hb
 go_wp2_with fail
 refine (Cv w11 (HE.out.below H11.out.bel)).mono ?_
 rintro e w12 ⟨rfl,hb⟩
 have H12:=Lib.hid (H11.out.below hb)
 have G12:=Lib.hid (G11.out.below hb)
 clear H11 G11 hb
 go_wp2_with fail
 refine (Cw w12 (HE.out.below H12.out.bel)).mono ?_
 rintro e w13 ⟨rfl,hb⟩
 have H13:=Lib.hid (H12.out.below hb)
 have G13:=Lib.hid (G12.out.below hb)
 clear H12 G12 hb
 go_wp2_with fail
 refine (Cx w13 (HE.out.below H13.out.bel)).mono ?_
 rintro e w14 ⟨rfl,hb⟩
 have H14:=Lib.hid (H13.out.below hb)
 have G14:=Lib.hid (G13.out.below hb)
 clear H13 G13 hb
 go_wp2_with fail
 have hblk:=Blk.new w14 9 #[.string ⟨#[42]⟩,.string ⟨#[32,32,83,85,77]⟩,.string ⟨#[32,32,32,32,65,49,58,66,50]⟩,.string ⟨#[32,32,32,32,53]⟩,.string ⟨#[32,32,50]⟩]
 have H15:=Lib.hid (H14.out.alloc_obj (.cells #[.string ⟨#[42]⟩,.string ⟨#[32,32,83,85,77]⟩,.string ⟨#[32,32,32,32,65,49,58,66,50]⟩,.string ⟨#[32,32,32,32,53]⟩,.string ⟨#[32,32,50]⟩] 9))
 have G15:=Lib.hid (G14.out.alloc_obj (.cells #[.string ⟨#[42]⟩,.string ⟨#[32,32,83,85,77]⟩,.string ⟨#[32,32,32,32,65,49,58,66,50]⟩,.string ⟨#[32,32,32,32,53]⟩,.string ⟨#[32,32,50]⟩] 9))
 generalize (w14.alloc (.cells #[.string ⟨#[42]⟩,.string ⟨#[32,32,83,85,77]⟩,.string ⟨#[32,32,32,32,65,49,58,66,50]⟩,.string ⟨#[32,32,32,32,53]⟩,.string ⟨#[32,32,50]⟩] 9))=W15 at hblk H15 G15 ⊢
 have hr2:=vP awL (show Blk W15 w14.heap.size 9 (bH awL).toArray from hblk)
 refine (li awL a2 (some ⟨w14.heap.size,0,none⟩) c2 5 W15 (by decide) (HRL.out.below G15.out.bel) hr2).mono ?_
 rintro e w16 ⟨rfl,hb⟩
 have H16:=Lib.hid (H15.out.below hb)
 clear H15 G15 H14 G14 hb hr2 hblk HRL HOL
 go_wp2_with fail
 go_ret
 exact ⟨rfl,H16.out.bel⟩
set_option maxRecDepth 100000
set_option maxHeartbeats 8000000
def aX (t:List NdA):List Value:=t.flatMap bd
theorem nj (t:List NdA):(aX t).length=t.length * 11:=by
 unfold aX
 induction t with
 | nil=>rfl
 | cons t l ih=>rw [List.flatMap_cons,List.length_append,ih,List.length_cons]; show 11+_=_; omega
theorem nl (t:List NdA):∀ u∈aX t,u.oneCell'=true:=by
 intro u hu
 unfold aX at hu
 obtain ⟨t,-,ht⟩:=List.mem_flatMap.1 hu
 unfold bd at ht
 simp at ht
 rcases ht with rfl | rfl | rfl | rfl | rfl | rfl | rfl | rfl | rfl | rfl | rfl <;> rfl
theorem rG {w:World} {base:Nat} {v:Value} {t:List NdA} (h:w.ownsRow base 39 11 v t.length (aX t)):∃ a c,v=.slice a t.length c∧t.length≤c∧c≤maxLen∧ap w a 11 (t.map bd):=by
 obtain ⟨a,c,h1,h2,h3,h4⟩:=fF bd (fun _=>rfl) h rfl
 exact ⟨a,c,h1,h2,h3,h4⟩
theorem sH {α:Type} (f:α→List Value) (s:Nat) (hf:∀ x,(f x).length=s):∀ (l:List α) (j:Nat) (v:Value),(l.flatMap f)[j]?=some v→∃ i x k,l[i]?=some x∧j=i * s+k∧(f x)[k]?=some v:=by
 intro l
 induction l with
 | nil=>intro j v h; cases h
 | cons x l ih =>
  intro j v h
  rw [List.flatMap_cons] at h
  by_cases hj:j<(f x).length
  ·rw [List.getElem?_append_left hj] at h
   exact ⟨0,x,j,rfl,by omega,h⟩
  rw [List.getElem?_append_right (by omega)] at h
  obtain ⟨i,y,k,h1,h2,h3⟩:=ih _ _ h
  refine ⟨i+1,y,k,h1,?_,h3⟩
  rw [hf] at h2 hj
  rw [Nat.succ_mul]
  omega
def iJ (n:NdA):NdA:={ n with vt:=n.vt.take 300 }
def few (t:List NdA):List NdA:=(t.take 300).map iJ
theorem pV (t:List NdA):(few t).length≤300:=by
 unfold few
 rw [List.length_map,List.length_take]
 omega
theorem lk {t:List NdA} (h:∀ n∈t,mQ n):∀ n∈few t,mQ n∧n.vt.length≤300:=by
 intro n hn
 obtain ⟨x,hx,rfl⟩:=List.mem_map.1 hn
 have h1:=h x (List.mem_of_mem_take hx)
 have h2:(x.vt.take 300).length≤300:=by rw [List.length_take]; omega
 exact ⟨⟨h1.num,Nat.le_trans h2 (by decide),h1.fnb⟩,h2⟩
theorem xi {t:List NdA} (h:t.length≤300) (h2:∀ n∈t,n.vt.length≤300):few t=t:=by
 unfold few
 rw [List.take_of_length_le h]
 conv=>rhs; rw [← List.map_id t]
 refine List.map_congr_left fun n hn => ?_
 unfold iJ
 rw [List.take_of_length_le (h2 n hn)]
 rfl
theorem yo:∀ (l:List NdA) (k:Nat) (x:NdA) (v:List UInt8),l[k]?=some x→(aX l).set (k * 11+3) (.string ⟨v.toArray⟩)=aX (l.set k { x with vt:=v }):=by
 intro l
 induction l with
 | nil=>intro k x v h; cases h
 | cons y l ih =>
  intro k x v h
  unfold aX
  cases k with
  | zero =>
   simp only [List.getElem?_cons_zero,Option.some.injEq] at h
   subst h
   rw [List.set_cons_zero,List.flatMap_cons,List.flatMap_cons]
   rfl
  | succ k =>
   rw [List.set_cons_succ,List.flatMap_cons,List.flatMap_cons,List.set_append_right _ _ (by show 11≤_; omega)]
   congr 1
   have:=ih k x v h
   unfold aX at this
   rw [← this]
   congr 1
   show (k+1) * 11+3 - 11=_
   omega
theorem ub (t:List NdA) (k:Nat) (h:k<t.length):((t.take k).map iJ++t.drop k).set k (iJ t[k])=(t.take (k+1)).map iJ++t.drop (k+1):=by
 have h1:((t.take k).map iJ).length=k:=by rw [List.length_map,List.length_take]; omega
 rw [List.set_append_right _ _ (by omega),h1,Nat.sub_self,List.drop_eq_getElem_cons h,List.set_cons_zero,List.take_succ_eq_append_getElem h,List.map_append,List.append_assoc]
 rfl
theorem ua (t:List NdA) (k:Nat) (h:k<t.length):((t.take k).map iJ++t.drop k)[k]?=some t[k]:=by
 have h1:((t.take k).map iJ).length=k:=by rw [List.length_map,List.length_take]; omega
 rw [List.getElem?_append_right (by omega),h1,Nat.sub_self,List.getElem?_drop]
 simp [h]
theorem gU {P:Program} {w w':World} {ops:Array Oper} {rest:List Oper} {o:Oper} {a:Act} {Q:Exit→Act→World→Prop} {v:Value} (hgd:o.guard=none) (s x:Operand) (t:TypeId)
  (ho:o.op=.call { callee:=.builtin .append,args:=#[s,x],argTypes:=#[t,t] }) (V X:Value) (hs:a.eval s=V) (hx:a.eval x=X) (hr:(Builtin.append_ #[t,t] o.type #[V,X]).run P w=.ok v w')
  (h:wpList P ops Q rest (a.put o.dst v) w'):wpList P ops Q (o::rest) a w:=by
 refine wpList_plain hgd fun K hK => ?_
 unfold Oper.wp execOp
 simp only [ho,resolve,invoke,builtin,Sem.run_bind,Sem.run_pure,Result.andThen_ok,List.map_toArray,List.map_cons,List.map_nil,hs,hx,hr]
 exact hK _ _ h
theorem sy (t:List NdA) (a:Option Addr) (c:Nat) (w:World) (h:ap w a 11 (t.map bd)) (hn:t.length≤100000) :
  Calls prog 23 #[.slice a t.length c] w fun e w'=>∃ u,e=.returned u∧w'.ownsRow w.heap.size 39 11 u t.length (aX t)∧Below w.heap.size w w':=by
 obtain ⟨i0,hi,hz0,hz1,hz2⟩:=info_parts mt
 obtain ⟨n,hnn⟩:=ex (t.length)
 have HN:=keep hnn
 rw [hnn] at hn ⊢
 have HCL:=keep (nj t)
 have HONE:=keep (nl t)
 have H0:=Lib.hid (aj.start (Ok.start w) 39 11)
 by_cases h0:n=0
 ·subst h0
  have hxs:aX t=[]:=by rw [List.length_eq_zero_iff.1 HN.out]; rfl
  rw [hxs]
  clear HCL HONE hxs h hnn HN
  have hap:(Builtin.append_ #[22,22] 22 #[.slice none 0 0,.slice a 0 c]).run prog w=.ok (.slice none 0 0) w:=by
   cases a <;> simp [Builtin.append_,run_underlying underlying22,sizeOf,typeInfo,hi,Builtin.lenOf,Builtin.firstCells,loadCells,loadCellsFrom]
  go_enter func23,ntmps23
  go_wp2_with (at_builtin; refine gU rfl _ _ _ rfl _ _ rfl rfl hap ?_)
  go_ret
  exact ⟨_,rfl,World.ownsRow_nil _ _ _ _,Below.refl _ _⟩
 obtain ⟨b,o,rfl,hB,hc⟩:=h (by intro e; rw [List.map_eq_nil_iff.1 e] at hnn; exact h0 (by rw [← hnn]; rfl))
 have HNW:=keep (show ∀ j u,(aX t)[j]?=some u→w.cell? ((⟨b,o,none⟩:Addr).add j)=some u from fun j u hu=>by
  obtain ⟨i,x,k,e1,rfl,e3⟩:=sH bd 11 (fun _=>rfl) t j u hu
  have h9:=hc i (bd x) (by rw [List.getElem?_map,e1]; rfl) k u e3
  rw [← h9]
  congr 1
  unfold Addr.add; split <;> simp_all)
 clear h hc hnn
 rw [HN.out] at HCL
 generalize aX t=xs at HCL HONE HNW ⊢
 clear HN
 go_enter func23,ntmps23
 go_wp2_with (at_builtin; refine wpList_append_lies _ rfl _ _ _ rfl w.heap.size 39 i0 _ 11 96 underlying22 hi hz0 hz1 hz2 rfl (by omega) _ _ _ rfl H0.out.own ⟨b,o,none⟩ n c xs rfl HCL.out HNW.out HONE.out (by omega) (by unfold maxLen; omega) (by omega) (Nat.le_refl _) _ rfl ?_; intro g3 cap3 w3 hown3 hgrow3 hat3 hlt3)
 go_ret
 have h9:=H0.out.appended hown3 hgrow3 hat3
 exact ⟨.slice (some ⟨g3,0,none⟩) n cap3,rfl,by have h8:=h9.own; rwa [Nat.zero_add,List.nil_append] at h8,h9.ok.bel⟩
set_option maxRecDepth 100000
set_option maxHeartbeats 4000000
def xq (l:List Int):List (List Value):=l.map fun x=>[.int .i64 x]
def cz (l:List Int):List Value:=l.map fun x=>.int .i64 x
theorem sN (l:List Int):cz l=l.flatMap fun x=>[.int .i64 x]:=by
 unfold cz
 induction l with
 | nil=>rfl
 | cons x l ih=>rw [List.map_cons,List.flatMap_cons,ih]; rfl
theorem sO (l:List Int) (x:Int):cz (l++[x])=cz l++[.int .i64 x]:=by unfold cz; rw [List.map_append]; rfl
theorem uI {w:World} {base:Nat} {v:Value} {l:List Int} (h:w.ownsRow base 3 1 v l.length (cz l)):∃ a c,v=.slice a l.length c∧l.length≤c∧ap w a 1 (xq l):=by
 rw [sN] at h
 obtain ⟨a,c,h1,h2,-,h4⟩:=fF (fun x=>[Value.int .i64 x]) (fun _=>rfl) h rfl
 exact ⟨a,c,h1,h2,h4⟩
def cI (ps:List Int) (i:Nat):Nat→List Int
 | 0=>[]
 | k+1=>if ps[k]?=some (i:Int) then cI ps i k++[(k:Int)] else cI ps i k
theorem tJ (ps:List Int) (i k:Nat):(cI ps i k).length≤k:=by
 induction k with
 | zero=>exact Nat.le_refl _
 | succ k ih =>
  unfold cI
  split
  ·rw [List.length_append]; show _+1≤_; omega
  omega
theorem qF (ps:List Int) (a:Option Addr) (c i:Nat) (w:World) (hl:ps.length≤1000) (hi:i≤ps.length) (hr:ap w a 1 (xq ps)) :
  Calls prog 55 #[.slice a ps.length c,.int .i64 (i:Int)] w fun e w'=>∃ v,e=.returned v∧w'.ownsRow w.heap.size 3 1 v (cI ps i i).length (cz (cI ps i i))∧Below w.heap.size w w':=by
 obtain ⟨j0,ji,jz0,jz1,jz2⟩:=info_parts ic
 have HR:=keep hr
 obtain ⟨n,hn⟩:=ex (ps.length)
 rw [hn] at hl hi ⊢
 have HN:=keep hn
 clear hr hn
 have H0:=Lib.hid (aj.start (Ok.start w) 3 1)
 go_enter func55,ntmps55
 go_wp2_with fail
 go_loopw [5,6] (fun ov kv wr=>∃ k:Nat,k≤i∧kv=.int .i64 (k:Int)∧Hid (aj w [] 3 1 ov (cI ps i k).length (cz (cI ps i k)) wr)) (fun _ kv _=>i - (intOf kv).toNat)
 case atStart=>exact ⟨0,Nat.zero_le _,rfl,H0⟩
 case round =>
  clear H0
  obtain ⟨k,hk,rfl,HK⟩:=hrel
  obtain ⟨wp,rfl⟩:∃ wp:World,wp=wr:=⟨_,rfl⟩
  obtain ⟨ov,rfl⟩:∃ ov:Value,ov=u5:=⟨_,rfl⟩
  by_cases hlt:(k:Int)<(i:Int)
  ·have hkl:k<ps.length:=by rw [HN.out]; omega
   obtain ⟨x,hx⟩:=ex (ps[k])
   have hxs:ps[k]?=some x:=by rw [List.getElem?_eq_getElem hkl,hx]
   obtain ⟨b1,o1,ha,hB,hc⟩:=ip HR.out (i:=k) (r:=[.int .i64 x]) (by unfold xq; rw [List.getElem?_map,hxs]; rfl)
   subst ha
   have g1:=(HK.out.ok.bel.cell hB).trans (hc 0 _ rfl)
   rw [Nat.mul_one,Nat.add_zero] at g1
   have hb1:b1<wp.heap.size:=Nat.lt_of_lt_of_le hB HK.out.ok.bel.size
   have hkc:k<n:=by rw [← HN.out]; exact hkl
   have hkn:(k:Int)<(n:Int):=by omega
   have hol:=tJ ps i k
   clear hc hx
   by_cases he:x=(i:Int)
   ·have HS:=keep (show cI ps i (k+1)=cI ps i k++[(k:Int)] by rw [cI,if_pos (by rw [hxs,he])])
    have hef:(x == (i:Int))=true:=by simp [he]
    clear hxs he
    obtain ⟨m,hm⟩:=ex ((cI ps i k).length)
    have HM:=keep hm
    rw [hm] at HK hol
    clear hm
    have HK1:=Lib.hid (HK.out.alloc_obj (.cells #[.int .i64 (k:Int)] 3))
    go_wp2_with (at_builtin; refine wpList_append_lies _ rfl _ _ _ rfl w.heap.size 3 j0 _ 1 8 underlying57 ji jz0 jz1 jz2 rfl (by omega) _ _ _ rfl HK1.out.own ⟨wp.heap.size,0,none⟩ 1 1 [.int .i64 (k:Int)] rfl rfl (World.news_of_block (cs:=#[.int .i64 (k:Int)]) (t:=3) (fr:=(0,0)) (heap_alloc_new _ _)) (by intro u hu; simp at hu; rcases hu with rfl; rfl) (by omega) (by unfold maxLen; omega) (by omega) (by have:=HK.out.ok.bel.size; simp; omega) _ rfl ?_; intro g5 cap5 w5 hown5 hgrow5 hat5 hlt5)
    have HK5:=Lib.hid (HK1.out.appended hown5 hgrow5 hat5)
    clear HK HK1 hown5 hgrow5 hat5
    go_roundw
    case rel=>exact ⟨k+1,by omega,by go_num,by rw [HS.out,sO,List.length_append,HM.out]; exact HK5⟩
    case measure=>simp [intOf]; omega
   have HS:=keep (show cI ps i (k+1)=cI ps i k by rw [cI,if_neg (by rw [hxs]; intro h; exact he (Option.some.inj h))])
   have hef:(x == (i:Int))=false:=beq_eq_false_iff_ne.2 he
   clear hxs he
   go_wp2_with fail
   go_roundw
   case rel=>exact ⟨k+1,by omega,by go_num,by rw [HS.out]; exact HK⟩
   case measure=>simp [intOf]; omega
  obtain rfl:k=i:=by omega
  go_wp2_with fail
  go_ret
  exact ⟨_,rfl,HK.out.own,HK.out.ok.bel⟩
open Go.RowKit
theorem lP:∀ {a b:List Nat},a.Pairwise (· < ·)→b.Pairwise (· < ·)→(∀ x,x∈a↔x∈b)→a=b
 | [],[],_,_,_=>rfl
 | [],y::b,_,_,h=>absurd ((h y).2 (by simp)) (by simp)
 | x::a,[],_,_,h=>absurd ((h x).1 (by simp)) (by simp)
 | x::a,y::b,ha,hb,h=>by
  rw [List.pairwise_cons] at ha hb
  have hxy:x=y:=by
   rcases List.mem_cons.1 ((h x).1 (by simp)) with e | e
   ·exact e
   have h1:=hb.1 x e
   rcases List.mem_cons.1 ((h y).2 (by simp)) with e2 | e2
   ·omega
   have:=ha.1 y e2; omega
  subst hxy
  rw [lP ha.2 hb.2 fun z => ?_]
  constructor
  ·intro hz
   rcases List.mem_cons.1 ((h z).1 (by simp [hz])) with e | e
   ·have:=ha.1 z hz; omega
   exact e
  intro hz
  rcases List.mem_cons.1 ((h z).2 (by simp [hz])) with e | e
  ·have:=hb.1 z hz; omega
  exact e
def nA (o:List Int) (rs:List Nat) (i:Nat):List Int:=rs.foldl (fun o r=>o.set r (i:Int)) o
def gj (t:List Nd):Nat→List Int
 | 0=>[]
 | k+1=>nA (gj t k++[-1]) (ae t k) k
theorem lL:∀ (rs:List Nat) (o:List Int) (i:Nat),(nA o rs i).length=o.length
 | [],_,_=>rfl
 | r::rs,o,i=>by
  show (nA (o.set r i) rs i).length=_
  rw [lL rs,List.length_set]
theorem o7:∀ (rs:List Nat) (o:List Int) (i k:Nat),(nA o rs i)[k]?=if k∈rs∧k<o.length then some (i:Int) else o[k]?
 | [],o,i,k=>by
  rw [if_neg (by simp)]
  rfl
 | r::rs,o,i,k=>by
  show (nA (o.set r i) rs i)[k]?=_
  rw [o7 rs,List.length_set]
  by_cases hk:k<o.length
  ·by_cases h1:k∈rs
   ·rw [if_pos ⟨h1,hk⟩,if_pos ⟨by simp [h1],hk⟩]
   rw [if_neg (fun h=>h1 h.1)]
   by_cases h2:k=r
   ·subst h2
    rw [if_pos ⟨by simp,hk⟩,List.getElem?_set_self hk]
   rw [if_neg (by rintro ⟨h,-⟩; rcases List.mem_cons.1 h with h | h; exact h2 h; exact h1 h),List.getElem?_set_ne (fun e=>h2 e.symm)]
  rw [if_neg (fun h=>hk h.2),if_neg (fun h=>hk h.2),List.getElem?_eq_none (by rw [List.length_set]; omega),List.getElem?_eq_none (by omega)]
theorem ed (t:List Nd):∀ m,(gj t m).length=m
 | 0=>rfl
 | m+1=>by
  show (nA _ _ _).length=_
  rw [lL,List.length_append,ed t m]
  rfl
theorem jU (t:List Nd) (m k:Nat):(gj t (m+1))[k]?=if k∈ae t m then some (m:Int) else if k<m then (gj t m)[k]? else if k=m then some (-1) else none:=by
 show (nA _ _ _)[k]?=_
 rw [o7,List.length_append,ed]
 by_cases h:k∈ae t m
 ·have:=bw t m k h
  rw [if_pos ⟨h,by show k<m+1; omega⟩,if_pos h]
 rw [if_neg (fun g=>h g.1),if_neg h]
 by_cases h1:k<m
 ·rw [if_pos h1,List.getElem?_append_left (by rw [ed]; exact h1)]
 rw [if_neg h1,List.getElem?_append_right (by rw [ed]; omega),ed]
 by_cases h2:k=m
 ·rw [if_pos h2,h2,Nat.sub_self]; rfl
 rw [if_neg h2,List.getElem?_eq_none (by show 1≤k - m; omega)]
theorem vi (t:List Nd):∀ m,m≤t.length→(∀ r∈an t m,(gj t m)[r]?=some (-1))∧(∀ i,i<m→∀ k,(gj t m)[k]?=some (i:Int)↔k∈ae t i)∧∀ k j:Nat,(gj t m)[k]?=some (j:Int)→j<m:=by
 intro m
 induction m with
 | zero =>
  intro _
  refine ⟨fun r hr => ?_,fun i hi=>absurd hi (by omega),fun k j h=>by cases h⟩
  have:=(eM t 0).2 r hr
  omega
 | succ m ih =>
  intro hm
  obtain ⟨ha,hb,hc⟩:=ih (by omega)
  have hn:t[m]?=some t[m]:=List.getElem?_eq_getElem (by omega)
  have hK:=cZ hn
  have hR:=cx hn
  have hsort:=(eM t m).1
  have hdis:∀ r∈(an t m).take ((an t m).length - al t[m]),r∉ae t m:=by
   intro r hr hr2
   rw [hK] at hr2
   have h1:=hsort
   rw [← List.take_append_drop ((an t m).length - al t[m]) (an t m),List.pairwise_append] at h1
   have:=h1.2.2 r hr r hr2
   omega
  refine ⟨fun r hr => ?_,fun i hi k => ?_,fun k j h => ?_⟩
  ·rw [jU]
   rw [hR] at hr
   rcases List.mem_append.1 hr with hr | hr
   ·rw [if_neg (hdis r hr),if_pos ((eM t m).2 r (List.mem_of_mem_take hr))]
    exact ha r (List.mem_of_mem_take hr)
   rw [List.mem_singleton] at hr
   subst hr
   rw [if_neg (fun h=>by have:=bw t r r h; omega),if_neg (Nat.lt_irrefl _),if_pos rfl]
  ·rw [jU]
   by_cases hk:k∈ae t m
   ·rw [if_pos hk]
    have hroot:k∈an t m:=by rw [hK] at hk; exact List.mem_of_mem_drop hk
    rcases Nat.lt_or_ge i m with h | h
    ·constructor
     ·intro e
      have e:=Option.some.inj e
      omega
     intro e
     have h1:=(hb i h k).2 e
     rw [ha k hroot] at h1
     have h1:=Option.some.inj h1
     omega
    obtain rfl:i=m:=by omega
    exact ⟨fun _=>hk,fun _=>rfl⟩
   rw [if_neg hk]
   by_cases h1:k<m
   ·rw [if_pos h1]
    rcases Nat.lt_or_ge i m with h | h
    ·exact hb i h k
    obtain rfl:i=m:=by omega
    exact ⟨fun e=>absurd (hc k i e) (Nat.lt_irrefl _),fun e=>absurd e hk⟩
   rw [if_neg h1]
   have hno:k∉ae t i:=fun e=>by have:=bw t i k e; omega
   by_cases h2:k=m
   ·rw [if_pos h2]
    exact ⟨fun e=>(by have e:=Option.some.inj e; omega),fun e=>absurd e hno⟩
   rw [if_neg h2]
   exact ⟨fun e=>(by cases e),fun e=>absurd e hno⟩
  rw [jU] at h
  split at h
  ·have h:=Option.some.inj h; omega
  split at h
  ·have:=hc k j h; omega
  split at h
  ·have h:=Option.some.inj h; omega
  cases h
theorem pq (ps:List Int) (i:Nat):∀ k,cI ps i k=((List.range k).filter fun j=>decide (ps[j]?=some (i:Int))).map fun j:Nat=>(j:Int)
 | 0=>rfl
 | k+1=>by
  rw [cI,pq ps i k,List.range_succ,List.filter_append,List.map_append]
  by_cases h:ps[k]?=some (i:Int)
  ·rw [if_pos h,List.filter_cons_of_pos (by simpa using h)]; rfl
  rw [if_neg h,List.filter_cons_of_neg (by simpa using h)]; simp
theorem qY {t:List Nd} {i:Nat} (hi:i<t.length):cI (gj t t.length) i i=(ae t i).map fun k:Nat=>(k:Int):=by
 rw [pq]
 congr 1
 refine lP ((List.pairwise_lt_range (n:=i)).filter _) ?_ fun x => ?_
 ·have hn:t[i]?=some t[i]:=List.getElem?_eq_getElem hi
  rw [cZ hn]
  exact (eM t i).1.sublist (List.drop_sublist _ _)
 rw [List.mem_filter,List.mem_range]
 simp only [decide_eq_true_eq]
 rw [(vi t t.length (Nat.le_refl _)).2.1 i hi x]
 exact ⟨fun h=>h.2,fun h=>⟨bw t i x h,h⟩⟩
