/- Contracts of the reference's Column and Parse of addresses. The contract of the laws' fixed address. The walks of the laws AddrLess, AddrOrder and AddrReads. Contracts of Format, package rect's and the reference's. The contract of glyph.printable. The contract of glyph.Unquote, at the literals that the lexer finds. -/
import Derived.Test.YthdmpajkacmkdaaGreatDoorGAddP6
import Derived.Test.YthdmpajkacmkdaaGreatDoorGVal
import Derived.Lib.IndexBytes
import Derived.OpenShut
import Derived.Deep.RegionHeld3
import Derived.Test.YthdmpajkacmkdaaGreatDoorGLexC
import Derived.Test.YthdmpajkacmkdaaGreatDoorGTg
import Derived.Test.YthdmpajkacmkdaaGreatDoorGLexP
import Derived.Laws.RangeString
import Derived.Laws.RangeAny
import Derived.Laws.BytesArg
import Derived.Lib.BufferRead
import Derived.WalkMore
namespace Go.Proofs.YthdmpajkacmkdaaGreatDoor
open Go.RowKit
section
open Go.RowKit
end
section
open Go.RowKit
end
set_option maxRecDepth 100000
set_option maxHeartbeats 4000000
open Go.RowKit Go.Proofs.Tryz
def lq (r:R4):List UInt8:=(aP r.c1 r.r1).1++(if r.c1=r.c2∧r.r1=r.r2 then [] else 58::(aP r.c2 r.r2).1)
def em (r:R4):List UInt8×Int:=if aG r=true then (lq r,0) else ([],3)
theorem rP {r:R4} (h:aG r=false):em r=([],3):=by unfold em; rw [if_neg (by simp [h])]
theorem jr {r:R4} (h:aG r=true):em r=(lq r,0):=by unfold em; rw [if_pos h]
theorem kL {a1 a2 a3 a4:Int} (h:aG ⟨a1,a2,a3,a4⟩=true):aW a1 a2=true∧aW a3 a4=true:=by
 unfold aG at h; simp only [Bool.and_eq_true] at h; exact ⟨h.1.1.1,h.1.1.2⟩
theorem qB {c r c' r':Int} (h:aW c r=true) (h':aW c' r'=true) (e:(aP c r).1=(aP c' r').1):c=c'∧r=r':=by
 have h1:=jF c r h
 rw [e,jF c' r' h'] at h1
 simp only [Prod.mk.injEq] at h1
 exact ⟨h1.1.symm,h1.2.1.symm⟩
theorem dt (c r:Int):(aP c r).1.length≤3000:=by
 cases hv:aW c r
 ·rw [gK c r hv]; simp
 have:=gr hv
 rw [fY c r hv]
 have h1:=fZ c.toNat (by omega)
 have h2:=nC r.toNat (by omega)
 simp; omega
theorem kU (a1 a2 a3 a4:Int) (w:World) (hp:Pow w) :
  Calls prog 76 #[.agg #[.int .i64 a1,.int .i64 a2,.int .i64 a3,.int .i64 a4]] w fun e w'=>e=.returned (.tuple #[.string ⟨(em ⟨a1,a2,a3,a4⟩).1.toArray⟩,.int .i64 (em ⟨a1,a2,a3,a4⟩).2])∧Below w.heap.size w w':=by
 have hb0:Below w.heap.size w (w.alloc (.cells #[.int .i64 a1,.int .i64 a2,.int .i64 a3,.int .i64 a4] 25)):=(Below.refl _ _).alloc (Nat.le_refl _) _
 have k0:=Blk.new w 25 #[.int .i64 a1,.int .i64 a2,.int .i64 a3,.int .i64 a4]
 have hz0:w.heap.size<(w.alloc (.cells #[.int .i64 a1,.int .i64 a2,.int .i64 a3,.int .i64 a4] 25)).heap.size:=by simp
 have HP:=Lib.hid hp
 have HB0:=Lib.hid hb0
 have HK:=Lib.hid k0
 clear hb0 k0 hp
 go_enter func76,ntmps76
 go_wp2_with fail
 generalize (w.alloc (.cells #[.int .i64 a1,.int .i64 a2,.int .i64 a3,.int .i64 a4] 25))=W0 at HB0 HK hz0 ⊢
 refine (ce _ _ _ _ _).mono ?_
 rintro e w1 ⟨rfl,hb1⟩
 have k1:=HK.out.below hb1 hz0
 have c0:=k1.cell 0
 have c1:=k1.cell 1
 have c2:=k1.cell 2
 have c3:=k1.cell 3
 simp only [List.getElem?_toArray,List.getElem?_cons_zero,List.getElem?_cons_succ] at c0 c1 c2 c3
 have HB1:=Lib.hid (an HB0.out hb1)
 clear hb1 k1 HB0 HK hz0
 have hv1:bi ⟨a1,a2,a3,a4⟩=if aG ⟨a1,a2,a3,a4⟩=true then 0 else 3:=rfl
 cases ha:aG ⟨a1,a2,a3,a4⟩
 ·rw [ha] at hv1
  rw [hv1]
  have HA:=Lib.hid (rP ha)
  clear ha hv1
  go_wp2_with fail
  go_ret2
  exact ⟨by rw [HA.out]; rfl,HB1.out⟩
 rw [ha] at hv1
 rw [hv1]
 obtain ⟨hva,hvb⟩:=kL ha
 have HVA:=Lib.hid hva
 have HVB:=Lib.hid hvb
 have HA:=Lib.hid (jr ha)
 clear ha hv1 hva hvb
 go_wp2_with fail
 refine (jK _ _ _ _ _).mono ?_
 rintro e w2 ⟨rfl,hb2⟩
 have HB2:=Lib.hid (an HB1.out hb2)
 clear hb2 c0 c1 c2 c3 HB1
 have hb3:Below w.heap.size w ((w2.alloc (.cells #[.int .i64 a1,.int .i64 a2] 139)).alloc (.cells #[.int .i64 a3,.int .i64 a4] 139)):=(HB2.out.alloc HB2.out.size _).alloc (by have:=HB2.out.size; simp; omega) _
 have K1:Blk ((w2.alloc (.cells #[.int .i64 a1,.int .i64 a2] 139)).alloc (.cells #[.int .i64 a3,.int .i64 a4] 139)) w2.heap.size 139 #[.int .i64 a1,.int .i64 a2]:=(Blk.new w2 139 #[.int .i64 a1,.int .i64 a2]).alloc _
 have K2:Blk ((w2.alloc (.cells #[.int .i64 a1,.int .i64 a2] 139)).alloc (.cells #[.int .i64 a3,.int .i64 a4] 139)) (w2.heap.size+1) 139 #[.int .i64 a3,.int .i64 a4]:=by
  have:=Blk.new (w2.alloc (.cells #[.int .i64 a1,.int .i64 a2] 139)) 139 #[.int .i64 a3,.int .i64 a4]
  simpa using this
 have hz:w2.heap.size+1<((w2.alloc (.cells #[.int .i64 a1,.int .i64 a2] 139)).alloc (.cells #[.int .i64 a3,.int .i64 a4] 139)).heap.size:=by simp
 have HB3:=Lib.hid hb3
 have HK1:=Lib.hid K1
 have HK2:=Lib.hid K2
 clear hb3 K1 K2
 go_wp2_with fail
 generalize ((w2.alloc (.cells #[.int .i64 a1,.int .i64 a2] 139)).alloc (.cells #[.int .i64 a3,.int .i64 a4] 139))=W4 at HB3 HK1 HK2 hz ⊢
 refine (gF _ _ _ (HP.out.below HB3.out)).mono ?_
 rintro e w5 ⟨rfl,hb⟩
 have k1:=HK1.out.below hb (by omega)
 have k2:=HK2.out.below hb (by omega)
 have c0:=k1.cell 0
 have c1:=k1.cell 1
 simp only [List.getElem?_toArray,List.getElem?_cons_zero,List.getElem?_cons_succ] at c0 c1
 have d0:=k2.cell 0
 have d1:=k2.cell 1
 simp only [List.getElem?_toArray,List.getElem?_cons_zero,List.getElem?_cons_succ] at d0 d1
 have hz5:w2.heap.size+1<w5.heap.size:=by have:=hb.size; omega
 have HB5:=Lib.hid (an HB3.out hb)
 clear hb k1 k2 HB3 HK1 HK2 hz
 have hl1:=dt a1 a2
 generalize hS:(aP a1 a2).1=S at hl1 ⊢
 have HS:=Lib.hid hS
 clear hS
 rcases (show (¬ a1=a3)∨(a1=a3∧¬ a2=a4)∨(a1=a3∧a2=a4) from by omega) with hne | ⟨he,hne⟩ | ⟨he,he2⟩
 ·have HF:Hid (lq ⟨a1,a2,a3,a4⟩=S++58::(aP a3 a4).1):=by show _=_; unfold lq; simp only []; rw [if_neg (fun h=>hne h.1),HS.out]
  go_wp2_with fail
  refine (gF _ _ _ (HP.out.below HB5.out)).mono ?_
  rintro e w6 ⟨rfl,hb⟩
  have HB6:=Lib.hid (an HB5.out hb)
  clear hb
  have hl2:=dt a3 a4
  generalize hT:(aP a3 a4).1=U at hl2 HF ⊢
  have HT:=Lib.hid hT
  clear hT
  go_wp2_with fail
  go_ret2
  exact ⟨by rw [HA.out,HF.out]; simp [bytes_append],HB6.out⟩
 ·subst he
  have HF:Hid (lq ⟨a1,a2,a1,a4⟩=S++58::(aP a1 a4).1):=by show _=_; unfold lq; simp only []; rw [if_neg (fun h=>hne h.2),HS.out]
  go_wp2_with fail
  refine (gF _ _ _ (HP.out.below HB5.out)).mono ?_
  rintro e w6 ⟨rfl,hb⟩
  have HB6:=Lib.hid (an HB5.out hb)
  clear hb
  have hl2:=dt a1 a4
  generalize hT:(aP a1 a4).1=U at hl2 HF ⊢
  have HT:=Lib.hid hT
  clear hT
  go_wp2_with fail
  go_ret2
  exact ⟨by rw [HA.out,HF.out]; simp [bytes_append],HB6.out⟩
 subst he
 subst he2
 have HF:Hid (lq ⟨a1,a2,a1,a2⟩=S):=by show _=_; unfold lq; simp only []; rw [if_pos (by simp),HS.out,List.append_nil]
 go_wp2_with fail
 go_ret2
 exact ⟨by rw [HA.out,HF.out]; rfl,HB5.out⟩
set_option maxRecDepth 1000000
set_option maxHeartbeats 4000000
section
open Go.RowKit Go.Proofs.Tryz
def dQ (b:UInt8):UInt8:=if aB b then 32 else 0
theorem Bf (b:UInt8) (w:World) :
  Calls prog 136 #[.int .u8 b.toNat] w fun e w'=>e=.returned (.int .u8 (dQ b).toNat)∧w'=w:=by
 have hb8:b.toNat<256:=b.toNat_lt
 rcases (show (32≤b.toNat∧b.toNat≤126)∨b.toNat<32∨126<b.toNat from by omega) with ⟨g1,g2⟩ | g1 | g1
 ·have hu:=keep (show dQ b=32 by unfold dQ aB; rw [if_pos (by simp; omega)])
  go_enter func136,ntmps136
  go_wp2_with fail
  go_ret
  exact ⟨by rw [hu.out]; rfl,rfl⟩
 ·have hu:=keep (show dQ b=0 by unfold dQ aB; rw [if_neg (by simp; omega)])
  go_enter func136,ntmps136
  go_wp2_with fail
  go_ret
  exact ⟨by rw [hu.out]; rfl,rfl⟩
 have hu:=keep (show dQ b=0 by unfold dQ aB; rw [if_neg (by simp; omega)])
 go_enter func136,ntmps136
 go_wp2_with fail
 go_ret
 exact ⟨by rw [hu.out]; rfl,rfl⟩
theorem Bg (x:Nat) (w:World) :
  Calls prog 137 #[.int .i32 (x:Int)] w fun e w'=>e=.returned (.bool (x == 0))∧w'=w:=by
 cases h:(x == 0)
 ·have hx:¬ (x:Int)=0:=by simp at h; omega
  clear h
  go_enter func137,ntmps137
  go_wp2_with fail
  go_ret
  exact ⟨by simp; omega,rfl⟩
 have hx:x=0:=by simpa using h
 subst hx
 clear h
 go_enter func137,ntmps137
 go_wp2_with fail
 go_ret
 exact ⟨rfl,rfl⟩
def ii (f:UInt8→UInt8) (l:List UInt8) (k:Nat):List UInt8:=(l.take k).map f++l.drop k
theorem iJ (f:UInt8→UInt8) (l:List UInt8) (k:Nat):(ii f l k).length=l.length:=by simp [ii]; omega
theorem wI (f : UInt8 → UInt8) (l : List UInt8) (k : Nat) (h : k < l.length) : (ii f l k)[k]'(by rw [iJ]; exact h) = l[k]:=by
 unfold ii
 rw [List.getElem_append_right (by simp; omega)]
 simp [Nat.min_eq_left (Nat.le_of_lt h)]
theorem rA (f:UInt8→UInt8) (l:List UInt8) (k:Nat) (h:k<l.length):ii f l (k+1)=(ii f l k).set k (f l[k]):=by
 have hm:((l.take k).map f).length=k:=by simp; omega
 unfold ii
 rw [List.set_append_right _ _ (by omega),hm,Nat.sub_self,List.take_succ_eq_append_getElem h,List.map_append,List.append_assoc,List.drop_eq_getElem_cons h]
 rfl
theorem qa (s:ByteArray) (w:World) (hs:s.size≤4611686018427387904) :
  Calls prog 135 #[.string s,.func (.func 136) #[] #[]] w fun e w'=>∃ cap,e=.returned (.slice (some ⟨w.heap.size,0,none⟩) s.size cap)∧cd w' w.heap.size (s.data.toList.map dQ)∧Below w.heap.size w w':=by
 have hcv:=run_bytes_of_string (P:=prog) w 9 32 5 s underlying9 underlying32 underlying5
 have hm:=cd.made w.drew s 5 (grownCap w s.size 0 5)
 have hbl:Below w.heap.size w (w.drew.alloc (.cells (bytesRow s (grownCap w s.size 0 5)) 5 ((bytesRow s (grownCap w s.size 0 5)).size,(bytesRow s (grownCap w s.size 0 5)).size+1))):=(Below.refl _ _).drew.alloc (Nat.le_refl _) _
 generalize (w.drew.alloc (.cells (bytesRow s (grownCap w s.size 0 5)) 5 ((bytesRow s (grownCap w s.size 0 5)).size,(bytesRow s (grownCap w s.size 0 5)).size+1)))=W0 at hcv hm hbl
 generalize grownCap w s.size 0 5=cap at hcv
 have HM:Hid (cd W0 w.heap.size s.data.toList):=hm
 have HB:=Lib.hid hbl
 clear hm hbl
 have hlen:s.data.toList.length=s.size:=by simp
 have HL:=Lib.hid hlen
 clear hlen
 go_enter func135,ntmps135
 go_wp2_with fail
 go_loopw [12] (fun i wr=>∃ k:Nat,k≤s.size∧i=.int .i64 k∧Hid (cd wr w.heap.size (ii dQ s.data.toList k))∧Hid (Below w.heap.size w wr)) (fun i _=>s.size - (intOf i).toNat)
 case atStart=>exact ⟨0,Nat.zero_le _,rfl,by simpa [ii] using HM,HB⟩
 case round =>
  obtain ⟨k,hk,rfl,H1,H2⟩:=hrel
  clear HM HB hcv
  by_cases hlt:k<s.size
  ·have hlt':k<s.data.toList.length:=by rw [HL.out]; exact hlt
   have hcell:=(H1.out k (by rw [iJ]; exact hlt')).1
   have hfroz:=(H1.out k (by rw [iJ]; exact hlt')).2
   rw [wI _ _ _ hlt'] at hcell
   obtain ⟨b,hb⟩:∃ b,b=s.data.toList[k]:=⟨_,rfl⟩
   rw [← hb] at hcell
   have HBy:=Lib.hid hb
   have HLT:=Lib.hid hlt'
   clear hb
   go_wp2_with fail
   refine (Bf b _).mono ?_
   rintro e w5 ⟨rfl,rfl⟩
   go_wp2_with fail
   go_roundw
   case rel =>
    refine ⟨k+1,by omega,by go_num,?_,Lib.hid (H2.out.setCell (Nat.le_refl _) _)⟩
    show cd _ _ _
    rw [rA _ _ _ HLT.out,← HBy.out]
    exact H1.out.set_ k (by rw [iJ]; exact HLT.out) _ _ rfl
   case measure=>simp [intOf]; omega
  have hke:ii dQ s.data.toList k=s.data.toList.map dQ:=by
   have:k=s.data.toList.length:=by rw [HL.out]; omega
   unfold ii
   rw [List.take_of_length_le (by omega),List.drop_eq_nil_of_le (by omega),List.append_nil]
  rw [hke] at H1
  clear hke
  go_wp2_with fail
  go_ret
  exact ⟨_,rfl,H1.out,H2.out⟩
def ti (l:List UInt8):Int:=match l.findIdx? (· == 0) with
 | some i=>(i:Int)
 | none=>-1
theorem rS (l:List UInt8) (k:Nat) (hb:∀ b∈l.take k,b≠0) (hk:k<l.length) (h0:l[k]=0):ti l=(k:Int):=by
 have h:l.findIdx? (· == 0)=some k:=by
  rw [List.findIdx?_eq_some_iff_getElem]
  refine ⟨hk,by simpa using h0,fun j hj => ?_⟩
  have:=hb l[j] (by rw [List.mem_take_iff_getElem]; exact ⟨j,by omega,rfl⟩)
  simpa using this
 unfold ti
 rw [h]
theorem mP (l:List UInt8) (hb:∀ b∈l,b≠0):ti l=-1:=by
 have h:l.findIdx? (· == 0)=none:=by
  rw [List.findIdx?_eq_none_iff]
  intro b hx
  simpa using hb b hx
 unfold ti
 rw [h]
theorem qF (t:ByteArray) (w:World) (ha:∀ b∈t.data.toList,b=0∨b=32) :
  Calls prog 162 #[.string t,.func (.func 137) #[] #[],.bool true] w fun e w'=>e=.returned (.int .i64 (ti t.data.toList))∧∃ pos,w'=w.iter t pos:=by
 have HA:=keep ha
 have HL:=keep (show t.data.toList.length=t.size by simp)
 clear ha
 go_enter func162,ntmps162
 go_wp2_with fail
 go_loopw [] (fun w'=>∃ pos:Nat,w'=w.iter t pos∧pos≤t.size∧bh (∀ b∈t.data.toList.take pos,b≠0)) (fun w'=>t.size - w'.iterPos w.heap.size)
 case atStart=>exact ⟨0,rfl,Nat.zero_le _,keep (by simp)⟩
 case round =>
  obtain ⟨pos,rfl,hle,HP⟩:=hrel
  by_cases hp:pos<t.size
  ·have hmem : t[pos]'hp ∈ t.data.toList:=by
    have : t[pos]'hp = t.data.toList[pos]'(by rw [HL.out]; exact hp):=rfl
    rw [this]
    exact List.getElem_mem _
   have hlow : (t[pos]'hp).toNat < 128:=by
    rcases HA.out _ hmem with e | e <;> rw [e] <;> decide
   have hnx:∀ ty,(Instr.next (.pointer (some ⟨w.heap.size,0,none⟩)) true ty).run prog (w.iter t pos)=_:=fun ty=>run_next_ascii w t pos ty hp hlow
   have htk : t.data.toList.take (pos + 1) = t.data.toList.take pos ++ [t[pos]'hp]:=by
    rw [List.take_succ_eq_append_getElem (by rw [HL.out]; exact hp)]
    rfl
   have HTK:=keep htk
   clear htk hmem hlow
   go_wp2_with fail
   refine (Bg _ _).mono ?_
   rintro e w5 ⟨rfl,rfl⟩
   generalize hz : ((t[pos]'hp).toNat == 0) = z
   cases z
   ·have hnz : t[pos]'hp ≠ 0:=by
     intro e
     rw [e] at hz
     simp at hz
    have HZ:=keep hnz
    clear hz hnz hnx
    go_wp2_with fail
    go_roundw
    case rel =>
     refine ⟨pos+1,rfl,by omega,keep fun b hb => ?_⟩
     rw [HTK.out] at hb
     rcases List.mem_append.1 hb with hb | hb
     ·exact HP.out b hb
     simp at hb; subst hb; exact HZ.out
    case measure=>simp; omega
   have hnz : t[pos]'hp = 0:=by
    rw [← UInt8.toNat_inj]
    simpa using hz
   have HZ:=keep hnz
   clear hz hnz hnx
   go_wp2_with fail
   go_ret
   exact ⟨by rw [rS _ pos HP.out (by rw [HL.out]; exact hp) HZ.out]; rfl,_,rfl⟩
  have hnx:∀ ty,(Instr.next (.pointer (some ⟨w.heap.size,0,none⟩)) true ty).run prog (w.iter t pos)=_:=fun ty=>run_next_end w t pos ty hp
  go_wp2_with fail
  go_ret
  refine ⟨by rw [mP _ fun b hb=>HP.out b (by rw [List.take_of_length_le (by rw [HL.out]; omega)]; exact hb)]; rfl,_,rfl⟩
theorem qG (w:World) (t:ByteArray) (pos:Nat):Below w.heap.size w (w.iter t pos):=(Below.refl _ _).alloc (Nat.le_refl _) _
theorem vq (l:List UInt8):decide (ti (l.map dQ)<0)=l.all aB:=by
 cases h:l.all aB
 ·have h2 : ∃ k,∃ hk : k < l.length,aB l[k] = false ∧ ∀ j,∀ hj : j < k,aB (l[j]'(by omega)) = true:=by
   rw [List.all_eq_false] at h
   obtain ⟨x,hx,hp⟩:=h
   have hf:(l.findIdx? fun b=>!aB b).isSome:=by
    rw [List.findIdx?_isSome,List.any_eq_true]
    exact ⟨x,hx,by simpa using hp⟩
   obtain ⟨k,hk⟩:=Option.isSome_iff_exists.1 hf
   rw [List.findIdx?_eq_some_iff_getElem] at hk
   obtain ⟨hk,h1,h2⟩:=hk
   exact ⟨k,hk,by simpa using h1,fun j hj=>by simpa using h2 j hj⟩
  obtain ⟨k,hk,h1,h3⟩:=h2
  rw [rS _ k ?_ (by simpa using hk) (by simp [dQ,h1])]
  ·simp
  intro b hb
  rw [← List.map_take] at hb
  obtain ⟨c,hc,rfl⟩:=List.mem_map.1 hb
  rw [List.mem_take_iff_getElem] at hc
  obtain ⟨j,hj,rfl⟩:=hc
  unfold dQ
  rw [if_pos (h3 j (by omega))]
  decide
 rw [mP]
 ·rfl
 intro b hb
 obtain ⟨c,hc,rfl⟩:=List.mem_map.1 hb
 unfold dQ
 rw [if_pos (List.all_eq_true.1 h c hc)]
 decide
theorem ej (s:ByteArray) (w:World) (hs:s.size≤4611686018427387904) :
  Calls prog 90 #[.string s] w fun e w'=>e=.returned (.bool (s.data.toList.all aB))∧Below w.heap.size w w':=by
 rw [← vq]
 have HX:=keep (show ∀ b∈(⟨(s.data.toList.map dQ).toArray⟩:ByteArray).data.toList,b=0∨b=32 from fun b hb=>by
  obtain ⟨c,_,rfl⟩:=List.mem_map.1 (show b∈s.data.toList.map dQ from hb)
  unfold dQ
  split <;> simp)
 go_enter func90,ntmps90
 go_wp2_with fail
 refine (qa s _ hs).mono ?_
 rintro e w1 ⟨cap,rfl,hb8,hb⟩
 have HB:=Lib.hid hb
 have hcv2:=hb8.string (P:=prog) 32 9 5 underlying32 underlying5 underlying9 cap
 rw [List.length_map,show s.data.toList.length=s.size from by simp] at hcv2
 clear hb8 hb
 go_wp2_with fail
 go_in
 go_wp2_with fail
 refine (qF _ _ HX.out).mono ?_
 rintro e w2 ⟨rfl,pos,hw2⟩
 have HB2:=Lib.hid (an HB.out (hw2▸qG _ _ _))
 clear hw2 hcv2
 go_wp2
 go_ret
 exact ⟨rfl,HB2.out⟩
end
section
open Go.RowKit Go.Proofs.Tryz
theorem cU (l:List UInt8) (b:UInt8):au (l++[b])=au l++[.int .u8 b.toNat]:=by simp [au]
theorem lx:(prog.info? 5).map (fun i=>(i.zero,i.size,i.bytes))=some (some (.int .u8 0),1,1):=by kernel_rfl
theorem dT {w:World} {base:Nat} {v:Value} {l:List UInt8} (h:w.ownsRow base 5 1 v l.length (au l)) :
  (convert 32 9 v).run prog w=.ok (.string ⟨l.toArray⟩) w:=by
 have hc:=@World.ownsRow.cells _ _ _ _ _ _ _ h
 rcases h.2 with ⟨rfl,hl⟩ | ⟨g,cap,cur,rfl,_,_,hn,hm,_⟩
 ·obtain rfl:l=[]:=List.length_eq_zero_iff.1 hl
  exact Lib.run_convert_nil_bytes w 32 9 5 0 underlying32 underlying5 underlying9
 refine run_convert_bytes_back w 32 9 5 ⟨g,0,none⟩ cap l underlying32 underlying5 underlying9 fun j hj => ?_
 exact hc rfl j _ (by simp [au]; exact ⟨_,List.getElem?_eq_getElem hj,rfl⟩)
theorem aQ {w:World} {base:Nat} {v:Value} {e:TypeId} {s n:Nat} {l:List Value} (h:w.ownsRow base e s v n l):∃ a c,v=.slice a n c:=by
 rcases h.2 with ⟨rfl,hl⟩ | ⟨g,cap,cur,rfl,_,_,hn,hm,_⟩
 ·exact ⟨none,0,by rw [hl]⟩
 exact ⟨_,_,rfl⟩
theorem wH {L:List UInt8} {k n:Nat} {t:List UInt8} (hn:L.length=n) (hk:k+1<n) (h:be (L.drop k)=some (t,n - k)) :
  (L[k]'(by omega) ≠ 34 ∧ ∃ t2,t = L[k]'(by omega) :: t2 ∧ be (L.drop (k + 1)) = some (t2,n - (k + 1))) ∨ (L[k]'(by omega) = 34 ∧ k + 2 < n ∧ L[k + 1]'(by omega) = 34 ∧ ∃ t2,t = 34 :: t2 ∧ be (L.drop (k + 2)) = some (t2,n - (k + 2))):=by
 have h1 : L.drop k = L[k]'(by omega) :: L[k + 1]'(by omega) :: L.drop (k + 2):=by
  rw [List.drop_eq_getElem_cons (by omega),List.drop_eq_getElem_cons (by omega)]
 have h2 : L.drop (k + 1) = L[k + 1]'(by omega) :: L.drop (k + 2):=List.drop_eq_getElem_cons (by omega)
 rw [h1,cj] at h
 split at h
 ·rename_i h34
  split at h
  ·rename_i h34'
   cases hu:be (L.drop (k+2)) with
   | none=>rw [hu] at h; simp at h
   | some x =>
    rw [hu] at h
    simp only [Option.map_some,Option.some.injEq,Prod.mk.injEq] at h
    obtain ⟨rfl,h9⟩:=h
    have h8:k+2<n:=by
     refine Nat.lt_of_not_le fun hge => ?_
     rw [List.drop_eq_nil_of_le (by omega)] at hu
     simp [be] at hu
    refine .inr ⟨h34,h8,h34',x.1,rfl,?_⟩
    rw [show n - (k+2)=x.2 by omega]
  simp only [Option.some.injEq,Prod.mk.injEq] at h
  omega
 rename_i h34
 rw [← h2] at h
 cases hu:be (L.drop (k+1)) with
 | none=>rw [hu] at h; simp at h
 | some x =>
  rw [hu] at h
  simp only [Option.map_some,Option.some.injEq,Prod.mk.injEq] at h
  obtain ⟨rfl,h9⟩:=h
  exact .inl ⟨h34,x.1,rfl,by rw [show n - (k+1)=x.2 by omega]⟩
theorem wG {L:List UInt8} {n:Nat} {t:List UInt8} (hn:L.length=n) (h1:1≤n) (h:be (L.drop (n - 1))=some (t,1)):t=[]:=by
 have h2 : L.drop (n - 1) = [L[n - 1]'(by omega)]:=by
  rw [List.drop_eq_getElem_cons (by omega),List.drop_eq_nil_of_le (by omega)]
 rw [h2,ed] at h
 split at h <;> simp at h
 exact h
def Unq (L t:List UInt8) (n k:Nat) (l:List UInt8):Prop:=∃ t2,be (L.drop k)=some (t2,n - k)∧t=l++t2
theorem Unq.step {L t:List UInt8} {n k:Nat} {l:List UInt8} (hn:L.length=n) (hk:k+1<n) (h:Unq L t n k l) :
  (L[k]'(by omega) ≠ 34 ∧ Unq L t n (k + 1) (l ++ [L[k]'(by omega)])) ∨ (L[k]'(by omega) = 34 ∧ k + 2 < n ∧ L[k + 1]'(by omega) = 34 ∧ Unq L t n (k + 2) (l ++ [34])):=by
 obtain ⟨t2,h1,h2⟩:=h
 rcases wH hn hk h1 with ⟨h3,t3,rfl,h4⟩ | ⟨h3,h5,h6,t3,rfl,h4⟩
 ·exact .inl ⟨h3,t3,h4,by rw [h2]; simp⟩
 exact .inr ⟨h3,h5,h6,t3,h4,by rw [h2]; simp⟩
theorem iM (s:ByteArray) (x t:List UInt8) (w:World) (hs:s.size≤1000) (hx:s.data.toList=34::x) (ht:be x=some (t,x.length)) (hp:s.data.toList.all aB=true) (h256:t.length≤256) :
  Calls prog 102 #[.string s] w fun e w'=>e=.returned (.tuple #[.string ⟨t.toArray⟩,.int .i64 0])∧Below w.heap.size w w':=by
 obtain ⟨i0,hi,hz0,hz1,hz2⟩:=info_parts lx
 have hsl:s.data.toList.length=s.size:=by rw [Array.length_toList]; rfl
 have hx1:1≤x.length:=by
  cases x with
  | nil=>simp [be] at ht
  | cons=>simp
 have hsz:s.size=x.length+1:=by rw [← hsl,hx]; rfl
 have h0:0<s.size:=by omega
 have h2:2≤s.size:=by omega
 have hU:Unq s.data.toList t s.size 1 []:=⟨t,by rw [hx,hsz]; exact ht,rfl⟩
 have hc0 : s[0]'h0 = 34:=by
  show s.data.toList[0]'(by rw [hsl]; exact h0) = 34
  simp [hx]
 obtain ⟨z,hz⟩:=ex (s.size - 1)
 have hzs:z<s.size:=by omega
 have hzz:(s.size:Int) - 1=(z:Int):=by omega
 have hcz : s[z]'hzs = 34:=by
  have h9:=pP
  clear h9
  have key:∀ (m:Nat) (l t:List UInt8),l.length≤m→be l=some (t,l.length)→∀ h:l≠[],l.getLast h=34:=by
   intro m
   induction m with
   | zero=>intro l t hl _ h; exact absurd (List.length_eq_zero_iff.1 (by omega)) h
   | succ m ih =>
    intro l t hl hu h
    match l,hl,hu,h with
    | [b],_,hu,_ =>
     rw [ed] at hu
     split at hu
     ·rename_i hb; exact hb
     simp at hu
    | b::c::r,hl,hu,_ =>
     rw [cj] at hu
     split at hu
     ·split at hu
      ·rename_i hc
       cases h9:be r with
       | none=>rw [h9] at hu; simp at hu
       | some y =>
        rw [h9] at hu
        simp only [Option.map_some,Option.some.injEq,Prod.mk.injEq,List.length_cons] at hu
        have hr:r≠[]:=by rintro rfl; simp [be] at h9
        rw [List.getLast_cons (by simp),List.getLast_cons hr]
        exact ih r y.1 (by simp at hl; omega) (by rw [h9,show r.length=y.2 by omega]) hr
      simp at hu
     cases h9:be (c::r) with
     | none=>rw [h9] at hu; simp at hu
     | some y =>
      rw [h9] at hu
      simp only [Option.map_some,Option.some.injEq,Prod.mk.injEq,List.length_cons] at hu
      rw [List.getLast_cons (by simp)]
      exact ih (c::r) y.1 (by simp at hl ⊢; omega) (by rw [h9,List.length_cons,show r.length+1=y.2 by omega]) (by simp)
  have hne:x≠[]:=by intro e; rw [e] at hx1; simp at hx1
  have h9:=key _ x t (Nat.le_refl _) ht hne
  show s.data.toList[z]'(by rw [hsl]; exact hzs) = 34
  rw [List.getLast_eq_getElem] at h9
  rw [← h9]
  simp only [hx]
  rw [List.getElem_cons]
  rw [dif_neg (by omega)]
  congr 1
  omega
 have hi0 : ((s[0]'h0).toNat : Int) = 34:=by rw [hc0]; rfl
 have hiz : ((s[z]'hzs).toNat : Int) = 34:=by rw [hcz]; rfl
 have hb0 : (((s[0]'h0).toNat : Int) != 34) = false:=by rw [hi0]; rfl
 have hbz : (((s[z]'hzs).toNat : Int) != 34) = false:=by rw [hiz]; rfl
 have HU:=keep hU
 have HSL:=keep hsl
 have HP:=keep hp
 have HZ:=keep hz
 have HT:=keep h256
 clear hx ht hp hU hsl hx1 hsz hc0 hcz hi0 hiz hz h256
 go_enter func102,ntmps102
 go_wp2_with fail
 go_step3
 go_wp2_with fail
 refine (ej s _ (by omega)).mono ?_
 rintro e w1 ⟨rfl,hb⟩
 rw [HP.out]
 have H1:=Lib.hid ((Ok.start w).below hb)
 clear hb
 go_wp2_with fail
 go_step3
 clear hb0 hbz
 go_wp2_with fail
 go_loopw [5,6] (fun ov iv wr=>∃ (k:Nat) (l:List UInt8),1≤k∧k≤z∧iv=.int .i64 (k:Int)∧l.length≤k∧bh (Unq s.data.toList t s.size k l)∧Hid (ai w [] 5 1 ov l.length (au l) wr)) (fun _ iv _=>s.size - (intOf iv).toNat)
 case atStart=>exact ⟨1,[],Nat.le_refl _,by have:=HZ.out; omega,rfl,Nat.zero_le _,HU,Lib.hid (ai.start H1.out _ _)⟩
 case round =>
  clear HU H1
  obtain ⟨k,l,hk1,hk,rfl,hll,HU,H⟩:=hrel
  by_cases hlt:(k:Int)=z
  ·have hlt2:k=z:=by omega
   subst hlt2
   have ht:t=l:=by
    obtain ⟨t2,h3,h4⟩:=HU.out
    rw [show s.size - k=1 by omega] at h3
    rw [h4,wG (L:=s.data.toList) (n:=s.size) (t:=t2) HSL.out (by omega) (by rw [HZ.out]; exact h3),List.append_nil]
   subst ht
   clear hlt
   have hcv:=dT H.out.own
   obtain ⟨a,c,hv⟩:=aQ H.out.own
   subst hv
   have hl1:=HT.out
   clear HU
   go_wp2_with fail
   rw [Exit.noGoto_ret]
   exact bodyPost_ret (v:=.tuple #[.string ⟨t.toArray⟩,.int .i64 0]) (by simp [results,results102,go_sem]) rfl ⟨rfl,H.out.ok.bel⟩
  have hkn:k+1<s.size:=by omega
  have hks:k<s.size:=by omega
  rcases Unq.step HSL.out hkn HU.out with ⟨h3,h4⟩ | ⟨h3,h5,h6,h4⟩
  ·have h3' : s[k]'hks ≠ 34:=h3
   have hi3 : ¬ ((s[k]'hks).toNat : Int) = 34:=by
    intro e
    exact h3' (by rw [← UInt8.toNat_inj]; show _=34; omega)
   have HU2:=keep (show Unq s.data.toList t s.size (k + 1) (l ++ [s[k]'hks]) from h4)
   obtain ⟨b,hb⟩:=ex (s[k]'hks)
   rw [hb] at HU2 hi3
   have hbi : ((s[k]'hks).toNat : Int) = (b.toNat : Int):=by rw [hb]
   clear h3 h3' h4 hb
   go_wp2_with (at_builtin; refine wpList_append_lies _ rfl _ _ _ rfl w.heap.size 5 i0 _ 1 1 underlying32 hi hz0 hz1 hz2 rfl (by omega) _ _ _ rfl (H.out.own.alloc _) ⟨wr.heap.size,0,none⟩ 1 1 [.int .u8 b.toNat] rfl rfl (World.news_of_block (cs:=#[.int .u8 b.toNat]) (t:=5) (fr:=(0,0)) (heap_alloc_new _ _)) (by intro u hu; simp at hu; rcases hu with rfl; rfl) (by omega) (by unfold maxLen; omega) (by omega) (by have:=H.out.ok.bel.size; simp; omega) _ rfl ?_; intro g cap w3 hown3 hgrow3 hat3 hlt3)
   go_roundw
   case rel=>exact ⟨k+1,l++[b],by omega,by omega,by go_num,by simp; omega,HU2,by rw [cU,List.length_append]; exact (H.out.alloc_obj _).appended hown3 hgrow3 hat3⟩
   case measure=>simp [intOf]; omega
  have h3' : s[k]'hks = 34:=h3
  have h6' : s[k + 1]'hkn = 34:=h6
  have hi3 : ((s[k]'hks).toNat : Int) = 34:=by rw [h3']; rfl
  have hi6 : ((s[k + 1]'hkn).toNat : Int) = 34:=by rw [h6']; rfl
  have hb3 : (((s[k]'hks).toNat : Int) != 34) = false:=by rw [hi3]; rfl
  have hb6 : (((s[k + 1]'hkn).toNat : Int) != 34) = false:=by rw [hi6]; rfl
  have HU2:=keep h4
  have hne:¬ (k:Int)+1=z:=by omega
  have ht1:((k:Int)+1).toNat=k+1:=by omega
  clear h3 h3' h4 h6 h6' hi3 hi6
  go_wp2_with (at_builtin; refine wpList_append_lies _ rfl _ _ _ rfl w.heap.size 5 i0 _ 1 1 underlying32 hi hz0 hz1 hz2 rfl (by omega) _ _ _ rfl (H.out.own.alloc _) ⟨wr.heap.size,0,none⟩ 1 1 [.int .u8 34] rfl rfl (World.news_of_block (cs:=#[.int .u8 34]) (t:=5) (fr:=(0,0)) (heap_alloc_new _ _)) (by intro u hu; simp at hu; rcases hu with rfl; rfl) (by omega) (by unfold maxLen; omega) (by omega) (by have:=H.out.ok.bel.size; simp; omega) _ rfl ?_; intro g cap w3 hown3 hgrow3 hat3 hlt3)
  go_roundw
  case rel=>exact ⟨k+2,l++[34],by omega,by omega,by go_num,by simp; omega,HU2,by rw [cU,List.length_append]; exact (H.out.alloc_obj _).appended hown3 hgrow3 hat3⟩
  case measure=>simp [intOf]; omega
end
