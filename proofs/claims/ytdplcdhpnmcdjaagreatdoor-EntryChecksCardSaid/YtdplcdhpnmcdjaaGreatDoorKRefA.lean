/- Contracts of the reference's tests of bytes, and of the end of a word. The contract of the reference's Upper. Contracts of the reference lexer's number and text. Contracts of the reference lexer's text, address and begins. -/
import Derived.Test.YtdplcdhpnmcdjaaGreatDoorKLexC
import Derived.Test.YtdplcdhpnmcdjaaGreatDoorKTg
import Derived.Test.YtdplcdhpnmcdjaaGreatDoorKShelf
import Derived.Test.YtdplcdhpnmcdjaaGreatDoorKLexJ
import Derived.Test.YtdplcdhpnmcdjaaGreatDoorKLexI
import Derived.Test.YtdplcdhpnmcdjaaGreatDoorKLexK
namespace Go.Proofs.YtdplcdhpnmcdjaaGreatDoor
set_option maxRecDepth 100000
set_option maxHeartbeats 8000000
section
open Go.RowKit Go.Proofs.Tryz
def bk (p:UInt8→Bool) (s:ByteArray) (i:Nat):Bool:=s.data.toList[i]?.any p
theorem zD {p : UInt8 → Bool} {s : ByteArray} {i : Nat} (h : i < s.size) : bk p s i = p (s[i]'h):=by
 unfold bk
 rw [List.getElem?_eq_getElem (by rw [Array.length_toList]; exact h)]
 rfl
theorem zN {p:UInt8→Bool} {s:ByteArray} {i:Nat} (h:¬ i<s.size):bk p s i=false:=by
 unfold bk
 rw [List.getElem?_eq_none (by rw [Array.length_toList]; exact Nat.le_of_not_lt h)]
 rfl
theorem zt (s:ByteArray) (i:Nat) (w:World) :
  Calls prog 221 #[.string s,.int .i64 (i:Int)] w fun e w'=>e=.returned (.bool (bk ah s i))∧w'=w:=by
 by_cases hlt:(i:Int)<s.size
 ·have hi:i<s.size:=by omega
  have hd:=(zD (p:=ah) hi).trans (dw (s[i]'hi))
  have HD:=keep hd
  clear hd
  by_cases h1 : 48 ≤ ((s[i]'hi).toNat : Int)
  ·by_cases h2 : ((s[i]'hi).toNat : Int) ≤ 57
   ·have HE:=keep (show bk ah s i=true by rw [HD.out]; simp; omega)
    go_enter func221,ntmps221
    go_wp2_with fail
    go_ret
    exact ⟨by rw [HE.out]; rfl,rfl⟩
   have HE:=keep (show bk ah s i=false by rw [HD.out]; simp; omega)
   go_enter func221,ntmps221
   go_wp2_with fail
   go_ret
   exact ⟨by rw [HE.out]; rfl,rfl⟩
  have HE:=keep (show bk ah s i=false by rw [HD.out]; simp; omega)
  go_enter func221,ntmps221
  go_wp2_with fail
  go_ret
  exact ⟨by rw [HE.out]; rfl,rfl⟩
 have HE:=keep (zN (p:=ah) (s:=s) (i:=i) (by omega))
 go_enter func221,ntmps221
 go_wp2_with fail
 go_ret
 exact ⟨by rw [HE.out]; rfl,rfl⟩
theorem D4 (b:UInt8):ar b=decide ((65≤(b.toNat:Int)∧(b.toNat:Int)≤90)∨(97≤(b.toNat:Int)∧(b.toNat:Int)≤122)):=by
 rw [Bool.eq_iff_iff,o1,decide_eq_true_eq]
 omega
theorem zx (s:ByteArray) (i:Nat) (w:World) :
  Calls prog 224 #[.string s,.int .i64 (i:Int)] w fun e w'=>e=.returned (.bool (bk ar s i))∧w'=w:=by
 by_cases hlt:(i:Int)<s.size
 ·have hi:i<s.size:=by omega
  have hd:=(zD (p:=ar) hi).trans (D4 (s[i]'hi))
  have HD:=keep hd
  clear hd
  rcases (show (((s[i]'hi).toNat : Int) < 65) ∨ (65 ≤ ((s[i]'hi).toNat : Int) ∧ ((s[i]'hi).toNat : Int) ≤ 90) ∨ (90 < ((s[i]'hi).toNat : Int) ∧ ((s[i]'hi).toNat : Int) < 97) ∨ (97 ≤ ((s[i]'hi).toNat : Int) ∧ ((s[i]'hi).toNat : Int) ≤ 122) ∨ 122 < ((s[i]'hi).toNat : Int) from by omega) with h1 | ⟨h1,h2⟩ | ⟨h1,h2⟩ | ⟨h1,h2⟩ | h1
  ·have h3 : ((s[i]'hi).toNat : Int) < 97:=by omega
   have HE:=keep (show bk ar s i=false by rw [HD.out]; simp; omega)
   go_enter func224,ntmps224
   go_wp2_with fail
   go_ret
   exact ⟨by rw [HE.out]; simp <;> omega,rfl⟩
  ·have HE:=keep (show bk ar s i=true by rw [HD.out]; simp; omega)
   go_enter func224,ntmps224
   go_wp2_with fail
   go_ret
   exact ⟨by rw [HE.out]; simp <;> omega,rfl⟩
  ·have h3 : 65 ≤ ((s[i]'hi).toNat : Int):=by omega
   have HE:=keep (show bk ar s i=false by rw [HD.out]; simp; omega)
   go_enter func224,ntmps224
   go_wp2_with fail
   go_ret
   exact ⟨by rw [HE.out]; simp <;> omega,rfl⟩
  ·have h3 : 65 ≤ ((s[i]'hi).toNat : Int):=by omega
   have h4 : 90 < ((s[i]'hi).toNat : Int):=by omega
   have HE:=keep (show bk ar s i=true by rw [HD.out]; simp; omega)
   go_enter func224,ntmps224
   go_wp2_with fail
   go_ret
   exact ⟨by rw [HE.out]; simp <;> omega,rfl⟩
  have h3 : 65 ≤ ((s[i]'hi).toNat : Int):=by omega
  have h4 : 90 < ((s[i]'hi).toNat : Int):=by omega
  have h5 : 97 ≤ ((s[i]'hi).toNat : Int):=by omega
  have HE:=keep (show bk ar s i=false by rw [HD.out]; simp; omega)
  go_enter func224,ntmps224
  go_wp2_with fail
  go_ret
  exact ⟨by rw [HE.out]; simp <;> omega,rfl⟩
 have HE:=keep (zN (p:=ar) (s:=s) (i:=i) (by omega))
 go_enter func224,ntmps224
 go_wp2_with fail
 go_ret
 exact ⟨by rw [HE.out]; simp <;> omega,rfl⟩
theorem DL (s:ByteArray) (i:Nat):bk au s i=(bk ar s i || bk ah s i):=by
 unfold bk
 cases s.data.toList[i]? <;> rfl
theorem Ej (s:ByteArray) (i:Nat):(bC s i).length=if bk au s i=true then (bC s (i+1)).length+1 else 0:=by
 unfold bC bk
 cases h:s.data.toList[i]? with
 | none =>
  rw [List.drop_of_length_le (List.getElem?_eq_none_iff.1 h)]
  rfl
 | some b =>
  obtain ⟨hi,rfl⟩:=List.getElem?_eq_some_iff.1 h
  rw [List.drop_eq_getElem_cons hi,List.takeWhile_cons]
  show _=if au s.data.toList[i]=true then _ else _
  split <;> simp
theorem Ar (s:ByteArray) (i:Nat) (w:World) (hs:s.size≤4611686018427387904) (hi:i≤s.size) :
  Calls prog 236 #[.string s,.int .i64 (i:Int)] w fun e w'=>e=.returned (.int .i64 ((i+(bC s i).length:Nat):Int))∧w'=w:=by
 obtain ⟨z,hz⟩:=ex (i+(bC s i).length)
 rw [hz]
 have HZ:=keep hz
 clear hz
 go_enter func236,ntmps236
 go_wp2_with fail
 go_loopw [1] (fun iv wr=>∃ k:Nat,k≤s.size∧iv=.int .i64 (k:Int)∧ao (k+(bC s k).length=z)∧wr=w) (fun iv _=>s.size - (intOf iv).toNat)
 case atStart=>exact ⟨i,hi,rfl,HZ,rfl⟩
 case round =>
  obtain ⟨k,hk,rfl,HX,rfl⟩:=hrel
  have hst:=DL s k
  have hrn:=Ej s k
  have hout:k=s.size→bk au s k=false:=fun e=>zN (by omega)
  cases hL:bk ar s k
  ·cases hD:bk ah s k
   ·rw [hL,hD] at hst
    rw [hst] at hrn
    have hz2:=HX.out
    rw [hrn] at hz2
    have HZ2:=keep hz2
    have HLL:=keep hL
    have HDD:=keep hD
    clear hst hrn hout hL hD hz2
    go_wp2_with fail
    refine (zx s k _).mono ?_
    rintro e w2 ⟨rfl,hw2⟩
    subst hw2
    rw [HLL.out]
    go_wp2_with fail
    refine (zt s k _).mono ?_
    rintro e w3 ⟨rfl,hw3⟩
    subst hw3
    rw [HDD.out]
    go_wp2_with fail
    go_ret
    exact ⟨by rw [← HZ2.out]; rfl,rfl⟩
   rw [hL,hD] at hst
   have hkl:k<s.size:=Nat.lt_of_le_of_ne hk (fun e=>by rw [hout e] at hst; cases hst)
   rw [hst] at hrn
   have hz2:=HX.out
   rw [hrn] at hz2
   have HZ2:=keep hz2
   have HLL:=keep hL
   have HDD:=keep hD
   clear hst hrn hout hL hD hz2
   go_wp2_with fail
   refine (zx s k _).mono ?_
   rintro e w2 ⟨rfl,hw2⟩
   subst hw2
   rw [HLL.out]
   go_wp2_with fail
   refine (zt s k _).mono ?_
   rintro e w3 ⟨rfl,hw3⟩
   subst hw3
   rw [HDD.out]
   go_wp2_with fail
   go_roundw
   case rel=>exact ⟨k+1,by omega,by go_num,keep (by have h9:=HZ2.out; simp at h9; omega),by first | trivial | rfl⟩
   case measure=>simp [intOf]; omega
  rw [hL] at hst
  have hkl:k<s.size:=Nat.lt_of_le_of_ne hk (fun e=>by rw [hout e] at hst; cases hst)
  rw [Bool.true_or] at hst
  rw [hst] at hrn
  have hz2:=HX.out
  rw [hrn] at hz2
  have HZ2:=keep hz2
  have HLL:=keep hL
  clear hst hrn hout hL hz2
  go_wp2_with fail
  refine (zx s k _).mono ?_
  rintro e w2 ⟨rfl,hw2⟩
  subst hw2
  rw [HLL.out]
  go_wp2_with fail
  go_roundw
  case rel=>exact ⟨k+1,by omega,by go_num,keep (by have h9:=HZ2.out; simp at h9; omega),by first | trivial | rfl⟩
  case measure=>simp [intOf]; omega
end
section
open Go.RowKit Go.Proofs.Tryz
theorem jR (s:ByteArray) (w:World) (hs:s.size≤4611686018427387904) :
  Calls prog 78 #[.string s] w fun e w'=>e=.returned (.string ⟨(s.data.toList.map upB).toArray⟩)∧Below w.heap.size w w':=by
 have hcv:=run_bytes_of_string (P:=prog) w 9 42 5 s underlying9 underlying42 underlying5
 have hm:=bd.made w.drew s 5 (grownCap w s.size 0 5)
 have hbl:Below w.heap.size w (w.drew.alloc (.cells (bytesRow s (grownCap w s.size 0 5)) 5 ((bytesRow s (grownCap w s.size 0 5)).size,(bytesRow s (grownCap w s.size 0 5)).size+1))):=(Below.refl _ _).drew.alloc (Nat.le_refl _) _
 generalize (w.drew.alloc (.cells (bytesRow s (grownCap w s.size 0 5)) 5 ((bytesRow s (grownCap w s.size 0 5)).size,(bytesRow s (grownCap w s.size 0 5)).size+1)))=W0 at hcv hm hbl
 generalize grownCap w s.size 0 5=cap at hcv
 have HM:Hid (bd W0 w.heap.size s.data.toList):=hm
 have HB:=Lib.hid hbl
 clear hm hbl
 have hlen:s.data.toList.length=s.size:=by simp
 have HL:=Lib.hid hlen
 clear hlen
 go_enter func78,ntmps78
 go_wp2_with fail
 go_loopw [4] (fun i wr=>∃ k:Nat,k≤s.size∧i=.int .i64 k∧Hid (bd wr w.heap.size (fL s.data.toList k))∧Hid (Below w.heap.size w wr)) (fun i _=>s.size - (intOf i).toNat)
 case atStart=>exact ⟨0,Nat.zero_le _,rfl,by simpa [fL] using HM,HB⟩
 case round =>
  obtain ⟨k,hk,rfl,H1,H2⟩:=hrel
  clear HM HB hcv
  by_cases hlt:k<s.size
  ·have hlt':k<s.data.toList.length:=by rw [HL.out]; exact hlt
   have hcell:=(H1.out k (by rw [dS]; exact hlt')).1
   have hfroz:=(H1.out k (by rw [dS]; exact hlt')).2
   rw [lU _ _ hlt'] at hcell
   obtain ⟨b,hb⟩:∃ b,b=s.data.toList[k]:=⟨_,rfl⟩
   rw [← hb] at hcell
   have HBy:=Lib.hid hb
   have HLT:=Lib.hid hlt'
   have hb8:b.toNat<256:=b.toNat_lt
   clear hb
   rcases (show (97≤b.toNat∧b.toNat≤122)∨b.toNat<97∨122<b.toNat from by omega) with ⟨h1,h2⟩ | h1 | h1
   ·go_wp2_with fail
    go_roundw
    case rel =>
     refine ⟨k+1,by omega,by go_num,?_,Lib.hid (H2.out.setCell (Nat.le_refl _) _)⟩
     show bd _ _ _
     rw [iG _ _ HLT.out,← HBy.out]
     exact H1.out.set_ k (by rw [dS]; exact HLT.out) _ _ (by rw [pz b ⟨h1,h2⟩]; omega)
    case measure=>simp [intOf]; omega
   ·go_wp2_with fail
    go_roundw
    case rel=>exact ⟨k+1,by omega,by go_num,by rw [kT _ _ HLT.out (by rw [← HBy.out]; exact ii b (by omega))]; exact H1,H2⟩
    case measure=>simp [intOf]; omega
   go_wp2_with fail
   go_roundw
   case rel=>exact ⟨k+1,by omega,by go_num,by rw [kT _ _ HLT.out (by rw [← HBy.out]; exact ii b (by omega))]; exact H1,H2⟩
   case measure=>simp [intOf]; omega
  have hke:fL s.data.toList k=s.data.toList.map upB:=by
   have:k=s.data.toList.length:=by rw [HL.out]; omega
   unfold fL
   rw [List.take_of_length_le (by omega),List.drop_eq_nil_of_le (by omega),List.append_nil]
  have h1:=H1.out
  rw [hke] at h1
  have hcv2:=h1.string (P:=prog) 42 9 5 underlying42 underlying5 underlying9 cap
  rw [List.length_map,HL.out] at hcv2
  clear h1 hke
  go_wp2_with fail
  go_ret
  exact ⟨rfl,H2.out⟩
end
section
open Go.RowKit Go.Proofs.Tryz
def Ak (i:Nat) (r:Option (Tk×Nat)) (e:Ending):Prop:=∃ (t:Tk) (n:Nat),e=.returned (.tuple #[tkA t,.int .i64 (n:Int),.bool r.isSome])∧∀ x,r=some x→t=x.1∧n=i+x.2
theorem zM {i:Nat} {r:Option (Tk×Nat)} (t:Tk) (h:r=none):Ak i r (.returned (.tuple #[tkA t,.int .i64 0,.bool false])) :=
 ⟨t,0,by rw [h]; rfl,fun x hx=>by rw [h] at hx; cases hx⟩
theorem f5 {i n:Nat} {r:Option (Tk×Nat)} {t:Tk} (m:Nat) (h:r=some (t,n)) (hm:m=i+n):Ak i r (.returned (.tuple #[tkA t,.int .i64 (m:Int),.bool true])) :=
 ⟨t,m,by rw [h]; rfl,fun x hx=>by rw [h] at hx; cases hx; exact ⟨rfl,hm⟩⟩
theorem An (s:ByteArray) (i:Nat):(cq s i).length=if bk ah s i=true then (cq s (i+1)).length+1 else 0:=by
 unfold cq bk
 cases h:s.data.toList[i]? with
 | none =>
  rw [List.drop_of_length_le (List.getElem?_eq_none_iff.1 h)]
  rfl
 | some b =>
  obtain ⟨hi,rfl⟩:=List.getElem?_eq_some_iff.1 h
  rw [List.drop_eq_getElem_cons hi,List.takeWhile_cons]
  show _=if ah s.data.toList[i]=true then _ else _
  split <;> simp
theorem BX (p:UInt8→Bool) (l:List UInt8):l.take (l.takeWhile p).length=l.takeWhile p:=by
 obtain ⟨h,-,-⟩:=br p l
 generalize l.takeWhile p=a at h ⊢
 generalize l.dropWhile p=b at h
 subst h
 exact List.take_left
theorem qI (l:List UInt8) (b:UInt8):cz (l++[b])=10 * cz l+(b.toNat - 48):=by
 unfold cz
 rw [List.foldl_append]
 rfl
theorem vw (l m:List UInt8):cz l≤cz (l++m):=by
 induction m generalizing l with
 | nil=>simp
 | cons b m ih =>
  have h1:=ih (l++[b])
  rw [qI,List.append_assoc] at h1
  simp at h1
  omega
theorem Dq {l a:List UInt8} {i k:Nat} (h0:(l.takeWhile ah)++bw (l.dropWhile ah)++List.replicate (4 - (bw (l.dropWhile ah)).length) 48=a) (h:aD<cz (a.take k)):ga l i=none:=by
 apply fU
 unfold cA
 rw [h0]
 have:=vw (a.take k) (a.drop k)
 rw [List.take_append_drop] at this
 omega
theorem zK {p:UInt8→Bool} {s:ByteArray} {i:Nat} (h:bk p s i=true):i<s.size:=by
 rcases Nat.lt_or_ge i s.size with h1 | h1
 ·exact h1
 rw [zN (by omega)] at h; cases h
theorem A7 {s:ByteArray} {z:Nat} (h:bk (· == 46) s z=true):bw (s.data.toList.drop z)=cq s (z+1):=by
 have hz:=zK h
 rw [zD hz] at h
 have e : s[z]'hz = 46:=by simpa using h
 rw [List.drop_eq_getElem_cons (by rw [Array.length_toList]; exact hz)]
 show (if s[z]'hz = 46 then _ else _) = _
 rw [if_pos e]
 rfl
theorem AM {s:ByteArray} {z:Nat} (h:bk (· == 46) s z=false):bw (s.data.toList.drop z)=[]:=by
 apply mG
 unfold bk at h
 rw [List.head?_drop]
 intro e
 rw [e] at h
 simp at h
theorem Cj {s:ByteArray} {z:Nat} (h:bk ah s (z+1)=false):bw (s.data.toList.drop z)=[]:=by
 cases h4:bk (· == 46) s z
 ·exact AM h4
 rw [A7 h4]
 have:=An s (z+1)
 rw [h] at this
 exact List.length_eq_zero_iff.1 (by simpa using this)
theorem Em {s : ByteArray} {z : Nat} (h : z < s.size) : bk (· == 46) s z = decide (((s[z]'h).toNat : Int) = 46):=by
 rw [zD h,Bool.eq_iff_iff,beq_iff_eq,decide_eq_true_eq,← UInt8.toNat_inj]
 show _=46↔_
 omega
theorem BQ (s:ByteArray) (j:Int) (i:Nat) (w:World) (hj:j=(i:Int)) :
  Calls prog 221 #[.string s,.int .i64 j] w fun e w'=>e=.returned (.bool (bk ah s i))∧w'=w:=by
 subst hj
 exact zt s i w
theorem BR (s:ByteArray) (i:Nat) (w:World) (hs:s.size≤256) (hd:bk ah s i=true) :
  Calls prog 222 #[.string s,.int .i64 (i:Int)] w fun e w'=>Ak i (ga (aK s i) i) e∧Below w.heap.size w w':=by
 have hsl:s.data.toList.length=s.size:=by rw [Array.length_toList]; rfl
 have hi:=zK hd
 obtain ⟨hl,hrun,hstop⟩:=br ah (aK s i)
 have hrl:(aK s i).length+i=s.size:=by unfold aK; rw [List.length_drop]; omega
 have hdr:cq s i=(aK s i).takeWhile ah:=rfl
 obtain ⟨u,hu⟩:=ex ((aK s i).takeWhile ah)
 obtain ⟨d,hdw⟩:=ex ((aK s i).dropWhile ah)
 rw [hu] at hl hrun hdr
 rw [hdw] at hl hstop
 have hul:1≤u.length:=by
  have h9:=An s i
  rw [hd,hdr] at h9
  simp at h9
  omega
 obtain ⟨z,hz⟩:=ex (i+u.length)
 have hzs:z≤s.size:=by rw [hl,List.length_append] at hrl; omega
 have hiz:i<z:=by omega
 have hdz:s.data.toList.drop z=d:=by
  have h9:s.data.toList.drop z=(aK s i).drop u.length:=by unfold aK; rw [List.drop_drop,hz]
  rw [h9,hl,List.drop_left]
 have hW:(s.extract i z).data.toList=u:=by
  rw [Lib.extract_data,← hz,Nat.add_sub_cancel_left]
  show (aK s i).take u.length=u
  rw [hl,List.take_left]
 have hWs:(s.extract i z).size≤256:=by rw [ByteArray.size_extract]; omega
 have HU:=keep hu
 have HDW:=keep hdw
 have HZ:=keep hz
 have HDR:=keep (show i+(cq s i).length=z by rw [hdr]; exact hz)
 have HDZ:=keep hdz
 have HRUN:=keep hrun
 have HW:=keep hW
 have HWS:=keep hWs
 have HNE:=keep (show u≠[] by rintro rfl; simp at hul)
 clear hsl hl hrun hstop hrl hdr hu hdw hul hz hdz hW hd hWs
 have H1:=Lib.hid (Ok.start w)
 go_enter func222,ntmps222
 go_wp2_with fail
 have H2:=Lib.hid ((H1.out.var w.heap.size 97 [.int .u8 0,.int .i64 0,.string ⟨#[]⟩,.int .i64 0,.int .i64 0,.int .i64 0,.int .i64 0,.int .i64 0] rfl).var (w.heap.size+1) 97 [.int .u8 1,.int .i64 0,.string ⟨#[]⟩,.int .i64 0,.int .i64 0,.int .i64 0,.int .i64 0,.int .i64 (i:Int)] (by simp))
 clear H1
 generalize ((w.alloc (.cells #[.int .u8 0,.int .i64 0,.string ⟨#[]⟩,.int .i64 0,.int .i64 0,.int .i64 0,.int .i64 0,.int .i64 0] 97)).alloc (.cells #[.int .u8 1,.int .i64 0,.string ⟨#[]⟩,.int .i64 0,.int .i64 0,.int .i64 0,.int .i64 0,.int .i64 (i:Int)] 97))=W3 at H2 ⊢
 go_loopw [8] (fun ev wr=>∃ k:Nat,i≤k∧k≤s.size∧ev=.int .i64 (k:Int)∧ao (k+(cq s k).length=z)∧wr=W3) (fun ev _=>s.size - (intOf ev).toNat)
 case atStart=>exact ⟨i,Nat.le_refl _,Nat.le_of_lt hi,rfl,HDR,rfl⟩
 case round =>
  clear HDR
  obtain ⟨k,hik,hk,rfl,HX,hwr⟩:=hrel
  obtain rfl:W3=wr:=hwr.symm
  have hrn:=An s k
  cases hD:bk ah s k
  ·rw [hD] at hrn
   have hkz:k=z:=by have h9:=HX.out; rw [hrn] at h9; simpa using h9
   have HDD:=keep hD
   clear HX hrn hD hik hk hi
   subst hkz
   have hiz2:(i:Int)≤(k:Int):=by omega
   have hks2:(k:Int)≤(s.size:Int):=by omega
   have HIK:=keep hiz
   clear hiz
   go_wp2_with fail
   refine (zt s k _).mono ?_
   rintro e w1 ⟨rfl,hw1⟩
   obtain rfl:W3=w1:=hw1.symm
   rw [HDD.out]
   go_upto_region 6 with fail
   obtain ⟨b,hb⟩:=ex ((bk (· == 46) s k && bk ah s (k+1)))
   have HB:=keep hb
   clear hb
   go_cut [42] (fun s42 wx=>s42=.bool b∧wx=W3)
   case first =>
    by_cases h1:(k:Int)<s.size
    ·have hkl:k<s.size:=by omega
     have hda:=Em hkl
     by_cases h2 : ((s[k]'hkl).toNat : Int) = 46
     ·rw [decide_eq_true h2] at hda
      have hB:=HB.out
      rw [hda,Bool.true_and] at hB
      have h2' : (((s[k]'hkl).toNat : Int) == 46) = true:=by rw [h2]; rfl
      have HB2:=keep hB
      clear hda hB h2
      go_wp2_with fail
      refine (BQ s _ (k+1) _ (by omega)).mono ?_
      rintro e w2 ⟨rfl,hw2⟩
      obtain rfl:W3=w2:=hw2.symm
      rw [HB2.out]
      go_wp2_with fail
      all_goals (go_meet; exact ⟨rfl,rfl⟩)
     rw [decide_eq_false h2] at hda
     have hB:=HB.out
     rw [hda,Bool.false_and] at hB
     subst hB
     have h2' : (((s[k]'hkl).toNat : Int) == 46) = false:=by simpa using h2
     clear hda h2
     go_wp2_with fail
     go_meet
     exact ⟨rfl,rfl⟩
    have hB:=HB.out
    rw [zN (by omega),Bool.false_and] at hB
    subst hB
    go_wp2_with fail
    go_meet
    exact ⟨rfl,rfl⟩
   case rest =>
    obtain ⟨rfl,hwc⟩:=hcut
    obtain rfl:W3=wc:=hwc.symm
    go_upto_if 42 with fail
    go_cut [8,10] (fun s8 s10 wx=>∃ (p:ByteArray) (q:Nat),s8=.int .i64 (q:Int)∧s10=.string p∧p.size≤256∧q≤s.size∧ao (p.data.toList=bw d)∧ao (q=k+if bw d=[] then 0 else (bw d).length+1)∧wx=W3)
    case first =>
     cases b
     ·have hP:bw d=[]:=by
       rw [← HDZ.out]
       have hB:=HB.out
       rw [Bool.and_eq_false_iff] at hB
       rcases hB with hB | hB
       ·exact AM hB
       exact Cj hB
      have HP:=keep hP
      clear hP
      go_wp2_with fail
      go_meet
      exact ⟨⟨#[]⟩,k,rfl,rfl,by decide,by omega,keep (by rw [HP.out]),keep (by rw [if_pos HP.out,Nat.add_zero]),rfl⟩
     have hB:=HB.out
     rw [Bool.and_eq_true] at hB
     obtain ⟨h46,hd1⟩:=hB
     have hk1:=zK hd1
     have HP:=keep (show bw d=cq s (k+1) by rw [← HDZ.out]; exact A7 h46)
     have hk2:(k:Int)+1=((k+1:Nat):Int):=by omega
     have hd2:=An s (k+1)
     rw [hd1] at hd2
     have HPN:=keep (show bw d≠[] by rw [HP.out]; intro e; rw [e] at hd2; simp at hd2)
     obtain ⟨y,hy⟩:=ex (k+1)
     rw [hy] at hk1 hk2
     obtain ⟨v,hv⟩:=ex (y+(cq s y).length)
     have HY:=keep hy
     have HV:=keep hv
     clear h46 hd1 hd2 hv hy
     go_wp2_with fail
     go_loopw [8] (fun ev wr=>∃ q:Nat,y≤q∧q≤s.size∧ev=.int .i64 (q:Int)∧ao (q+(cq s q).length=v)∧wr=W3) (fun ev _=>s.size - (intOf ev).toNat)
     case atStart=>exact ⟨y,Nat.le_refl _,by omega,by go_num,HV,rfl⟩
     case round =>
      obtain ⟨q,hyq,hq,rfl,HX,hwr⟩:=hrel
      obtain rfl:W3=wr:=hwr.symm
      have hrn:=An s q
      cases hD:bk ah s q
      ·rw [hD] at hrn
       have hqv:q=v:=by have h9:=HX.out; rw [hrn] at h9; simpa using h9
       have HDD:=keep hD
       clear HX hrn hD
       subst hqv
       have hyq2:(y:Int)≤(q:Int):=by omega
       have hqs2:(q:Int)≤(s.size:Int):=by omega
       have HPD:=keep (show (s.extract y q).data.toList=bw d by
        rw [HP.out,HY.out,Lib.extract_data,← HV.out,Nat.add_sub_cancel_left]
        exact BX ah (aK s y))
       have HPS:=keep (show (s.extract y q).size≤256 by rw [ByteArray.size_extract]; omega)
       have HQ:=keep (show q=k+((bw d).length+1) by rw [HP.out,HY.out]; have:=HV.out; have:=HY.out; omega)
       go_wp2_with fail
       refine (zt s q _).mono ?_
       rintro e w4 ⟨rfl,hw5⟩
       obtain rfl:W3=w4:=hw5.symm
       rw [HDD.out]
       go_wp2_with fail
       go_meet
       exact ⟨s.extract y q,q,rfl,rfl,HPS.out,by omega,HPD,keep (by rw [if_neg HPN.out]; exact HQ.out),rfl⟩
      have hql:=zK hD
      rw [hD] at hrn
      have HZ2:=keep (show q+1+(cq s (q+1)).length=v by have h9:=HX.out; rw [hrn] at h9; simp at h9; omega)
      have HDD:=keep hD
      clear HX hrn hD
      go_wp2_with fail
      refine (zt s q _).mono ?_
      rintro e w4 ⟨rfl,hw5⟩
      obtain rfl:W3=w4:=hw5.symm
      rw [HDD.out]
      go_wp2_with fail
      go_roundw
      case rel=>exact ⟨q+1,by omega,by omega,by go_num,HZ2,by first | trivial | rfl⟩
      case measure=>simp [intOf]; omega
    case rest =>
     obtain ⟨p,q,rfl,rfl,hp,hq,HP,HQ,hwc⟩:=hcut
     obtain rfl:W3=wc:=hwc.symm
     clear HB
     by_cases h4:(p.size:Int)>4
     ·have HL:=keep (show 4<(bw ((aK s i).dropWhile ah)).length by rw [HDW.out,← HP.out,Array.length_toList]; show 4<p.size; omega)
      have F4:=sE H2
      go_wp2_with fail
      exact e8_ [.int .i64 0,.bool false] H2 (fun W h=>by simp [results,results222,go_sem,h]) (fun h=>⟨zM ⟨1,0,[],R4.zero,i⟩ (rK HL.out),h⟩)
     have hp4:p.size≤4:=by omega
     go_wp2_with fail
     go_loopg [10] (4 - p.size) (fun gf pv wr=>∃ x:ByteArray,gf=4 - x.size∧pv=.string x∧x.size≤4∧p.size≤x.size∧ao (x.data.toList=bw d++List.replicate (x.size - p.size) 48)∧wr=W3)
     case atStart=>exact ⟨p,rfl,rfl,hp4,Nat.le_refl _,keep (by rw [Nat.sub_self,List.replicate_zero,List.append_nil]; exact HP.out),rfl⟩
     case round =>
      obtain ⟨x,hgx,rfl,hx4,hpx,HX,hwr⟩:=hrel
      obtain rfl:W3=wr:=hwr.symm
      subst hgx
      by_cases hlt:(x.size:Int)<4
      ·have HX2:=keep (show (x++(⟨#[48]⟩:ByteArray)).data.toList=bw d++List.replicate ((x++(⟨#[48]⟩:ByteArray)).size - p.size) 48 by
        rw [ByteArray.data_append,Array.toList_append,HX.out,ByteArray.size_append,show x.size+(⟨#[48]⟩:ByteArray).size - p.size=(x.size - p.size)+1 by show x.size+1 - _=_; omega,List.replicate_succ',List.append_assoc])
       have HX3:=keep (show (x++(⟨#[48]⟩:ByteArray)).size=x.size+1 by rw [ByteArray.size_append]; rfl)
       go_wp2_with fail
       go_roundg (4 - (x.size+1))
       case rel=>exact ⟨x++⟨#[48]⟩,by rw [HX3.out],rfl,by rw [HX3.out]; omega,by rw [HX3.out]; omega,HX2,rfl⟩
       case measure=>omega
      have hxe:x.size=4:=by omega
      have hpl:p.size=(bw d).length:=by rw [← HP.out,Array.length_toList]; rfl
      have hY:(s.extract i k++x).data.toList=u++bw d++List.replicate (4 - (bw d).length) 48:=by
       rw [ByteArray.data_append,Array.toList_append,HW.out,HX.out,hxe,hpl,List.append_assoc]
      have hYs:(s.extract i k++x).size≤300:=by rw [ByteArray.size_append]; have:=HWS.out; omega
      have hYd:∀ b∈(s.extract i k++x).data.toList,ah b=true:=by
       intro b hb
       rw [hY] at hb
       rcases List.mem_append.1 hb with hb | hb
       ·rcases List.mem_append.1 hb with hb | hb
        ·exact HRUN.out b hb
        cases d with
        | nil=>simp [bw] at hb
        | cons c r =>
         rw [places_cons] at hb
         split at hb
         ·exact (br ah r).2.1 b hb
         simp at hb
       rw [List.mem_replicate] at hb
       rw [hb.2]
       decide
      have HY:=keep hY
      have HYD:=keep hYd
      have HPL:=keep (show (bw d).length≤4 by omega)
      clear hY hYd hpl
      go_upto_region 17 with fail
      generalize s.extract i k++x=Y at HY HYD hYs ⊢
      clear HX hxe hx4 hpx hlt hp4 hp h4 HP
      go_wp2_with fail
      go_loopw [13] (fun jv wr=>∃ (j:Nat) (v:Int),j≤Y.size∧jv=.int .i64 (j:Int)∧0≤v∧v≤9223372036854775807∧ao (v=(cz (Y.data.toList.take j):Nat))∧Hid (Ok w [af (w.heap.size+1) 97 [.int .u8 1,.int .i64 v,.string ⟨#[]⟩,.int .i64 0,.int .i64 0,.int .i64 0,.int .i64 0,.int .i64 (i:Int)],af (w.heap.size) 97 [.int .u8 0,.int .i64 0,.string ⟨#[]⟩,.int .i64 0,.int .i64 0,.int .i64 0,.int .i64 0,.int .i64 0]] wr)) (fun jv _=>Y.size - (intOf jv).toNat)
      case atStart=>exact ⟨0,0,Nat.zero_le _,rfl,by omega,by omega,keep (by rw [List.take_zero]; rfl),H2⟩
      case round =>
       clear H2
       obtain ⟨j,v,hj,rfl,hv0,hv,HV,HR⟩:=hrel
       obtain ⟨wp,rfl⟩:∃ wp:World,wp=wr:=⟨_,rfl⟩
       by_cases hlt:(j:Int)<Y.size
       ·have hjl:j<Y.size:=by omega
        have hyl:Y.data.toList.length=Y.size:=by rw [Array.length_toList]; rfl
        have hdg:=HYD.out (Y[j]'hjl) (by show Y.data.toList[j]'(by rw [hyl]; exact hjl) ∈ _; exact List.getElem_mem _)
        rw [dw] at hdg
        simp at hdg
        obtain ⟨dd,hdd⟩ : ∃ dd : Nat,(Y[j]'hjl).toNat = 48 + dd:=⟨(Y[j]'hjl).toNat - 48,by omega⟩
        have hd9:dd≤9:=by omega
        have hstep:=f7 Y.data.toList j (by rw [hyl]; exact hjl)
        have hst2:((cz (Y.data.toList.take (j+1)):Nat):Int)=10 * v+dd:=by
         rw [hstep,show (Y.data.toList[j]'(by rw [hyl]; exact hjl)).toNat = 48 + dd from hdd,HV.out]
         omega
        have HST:=keep hst2
        have hix : ∀ h,((Y[j]'h).toNat : Int) = 48 + (dd : Int):=fun _ => by rw [hdd]; omega
        clear hdg hdd hstep hst2 hyl
        obtain ⟨qq,hqq⟩:∃ qq:Int,(9223372036854775807 - (48+(dd:Int) - 48)).tdiv 10=qq:=⟨_,rfl⟩
        have hqe:(9223372036854775807 - (48+(dd:Int) - 48)).tdiv 10=(9223372036854775807 - (48+(dd:Int) - 48)) / 10:=Int.tdiv_eq_ediv_of_nonneg (by omega)
        have hq0:0≤qq:=by omega
        have hq1:qq≤922337203685477580:=by omega
        by_cases hG:9223372036854775807<10 * v+dd
        ·have HOV:=keep (Dq (l:=aK s i) (i:=i) (a:=Y.data.toList) (k:=j+1) (by rw [HU.out,HDW.out]; exact HY.out.symm) (by have:=HST.out; unfold aD; omega))
         have hgt:v>qq:=by omega
         clear hqe hG
         have F4:=sE HR
         go_wp2_with fail
         exact e8_ [.int .i64 0,.bool false] HR (fun W h=>by simp [results,results222,go_sem,h]) (fun h=>⟨zM ⟨1,v,[],R4.zero,i⟩ HOV.out,h⟩)
        have HM:=keep (show 0≤10 * v+(48+(dd:Int) - 48)∧10 * v+(48+(dd:Int) - 48)≤9223372036854775807 by omega)
        have hgt:¬ v>qq:=by omega
        have hov:10 * v+(dd:Int)≤9223372036854775807:=by omega
        clear hqe hG
        have F4:=sE HR
        go_wp2_with fail
        clear F4
        have hfar:∀ x∈[af (w.heap.size) 97 [.int .u8 0,.int .i64 0,.string ⟨#[]⟩,.int .i64 0,.int .i64 0,.int .i64 0,.int .i64 0,.int .i64 0]],x.far (some (w.heap.size+1)):=by
         simp [af] <;> omega
        have HS:=Lib.hid (HR.out.set_ (i:=1) (u:=.int .i64 (10 * v+(48+(dd:Int) - 48))) (by omega) hfar)
        go_roundw
        case rel=>exact ⟨j+1,10 * v+(48+(dd:Int) - 48),by omega,by go_num,HM.out.1,HM.out.2,keep (by rw [HST.out]; omega),HS⟩
        case measure=>simp [intOf]; omega
       obtain rfl:j=Y.size:=by omega
       have hfull:Y.data.toList.take Y.size=Y.data.toList:=by rw [show Y.size=Y.data.toList.length by rw [Array.length_toList]; rfl,List.take_length]
       have HN:=keep (show v=(cA u (bw d):Nat) by rw [HV.out,hfull,HY.out]; rfl)
       have HRES:=keep (show ga (aK s i) i=some (⟨1,v,[],R4.zero,i⟩,u.length+if bw d=[] then 0 else (bw d).length+1) by
        rw [gV (by rw [HU.out]; exact HNE.out) (by rw [HDW.out]; exact HPL.out) (by rw [HU.out,HDW.out]; have:=HN.out; unfold aD; omega),HU.out,HDW.out,← HN.out])
       have HQ2:=keep (show q=i+(u.length+if bw d=[] then 0 else (bw d).length+1) by rw [HQ.out]; have:=HZ.out; omega)
       clear hfull
       have F4:=sE HR
       go_wp2_with fail
       exact e8_ [.int .i64 (q:Int),.bool true] HR (fun W h=>by simp [results,results222,go_sem,h]) (fun h=>⟨f5 q HRES.out HQ2.out,h⟩)
  have hkl:=zK hD
  rw [hD] at hrn
  have HZ2:=keep (show k+1+(cq s (k+1)).length=z by have h9:=HX.out; rw [hrn] at h9; simp at h9; omega)
  have HDD:=keep hD
  clear HX hrn hD
  go_wp2_with fail
  refine (zt s k _).mono ?_
  rintro e w4 ⟨rfl,hw5⟩
  obtain rfl:W3=w4:=hw5.symm
  rw [HDD.out]
  go_wp2_with fail
  go_roundw
  case rel=>exact ⟨k+1,by omega,by omega,by go_num,HZ2,by first | trivial | rfl⟩
  case measure=>simp [intOf]; omega
end
section
open Go.RowKit Go.Proofs.Tryz
def fg (s:ByteArray) (a k:Nat) (t:List UInt8):Prop:=aP (s.data.toList.drop a)=(aP (s.data.toList.drop k)).map fun p=>(t++p.1,p.2+(k - a))
theorem fg.start (s:ByteArray) (a:Nat):fg s a a []:=by
 unfold fg
 simp
theorem fg.step {s : ByteArray} {a k : Nat} {t : List UInt8} (h : fg s a k t) (ha : a ≤ k) (hk : k < s.size) (h1 : s[k]'hk ≠ 34) : fg s a (k + 1) (t ++ [s[k]'hk]):=by
 have hsl:s.data.toList.length=s.size:=by rw [Array.length_toList]; rfl
 have hd : s.data.toList.drop k = s[k]'hk :: s.data.toList.drop (k + 1):=List.drop_eq_getElem_cons (by omega)
 unfold fg at h ⊢
 rw [h,hd]
 cases hr:s.data.toList.drop (k+1) with
 | nil=>rw [di,if_neg h1]; rfl
 | cons c r =>
  rw [bR,if_neg h1]
  cases aP (c::r) with
  | none=>rfl
  | some y=>simp; omega
theorem fg.pair {s : ByteArray} {a k : Nat} {t : List UInt8} (h : fg s a k t) (ha : a ≤ k) (hk : k + 1 < s.size) (h1 : s[k]'(by omega) = 34) (h2 : s[k + 1]'hk = 34) : fg s a (k + 2) (t ++ [34]):=by
 have hsl:s.data.toList.length=s.size:=by rw [Array.length_toList]; rfl
 have hd : s.data.toList.drop k = s[k]'(by omega) :: s[k + 1]'hk :: s.data.toList.drop (k + 2):=by
  rw [List.drop_eq_getElem_cons (by omega),List.drop_eq_getElem_cons (by omega)]
  rfl
 unfold fg at h ⊢
 rw [h,hd,bR,if_pos h1,if_pos h2]
 cases aP (s.data.toList.drop (k+2)) with
 | none=>rfl
 | some y=>simp; omega
theorem fg.last {s : ByteArray} {a k : Nat} {t : List UInt8} (h : fg s a k t) (ha : a ≤ k) (hk : k < s.size) (h1 : s[k]'hk = 34) (h2 : ∀ h : k + 1 < s.size,s[k + 1]'h ≠ 34) : aP (s.data.toList.drop a) = some (t,k + 1 - a):=by
 have hsl:s.data.toList.length=s.size:=by rw [Array.length_toList]; rfl
 have hu:aP (s.data.toList.drop k)=some ([],1):=by
  have hd : s.data.toList.drop k = s[k]'hk :: s.data.toList.drop (k + 1):=List.drop_eq_getElem_cons (by omega)
  rw [hd]
  by_cases hk1:k+1<s.size
  ·have hd2 : s.data.toList.drop (k + 1) = s[k + 1]'hk1 :: s.data.toList.drop (k + 2):=List.drop_eq_getElem_cons (by omega)
   rw [hd2,bR,if_pos h1,if_neg (h2 hk1)]
  rw [List.drop_eq_nil_of_le (by omega),di,if_pos h1]
 unfold fg at h
 rw [h,hu]
 simp; omega
theorem fg.out {s:ByteArray} {a:Nat} {t:List UInt8} (h:fg s a s.size t):aP (s.data.toList.drop a)=none:=by
 have hsl:s.data.toList.length=s.size:=by rw [Array.length_toList]; rfl
 unfold fg at h
 rw [h,List.drop_eq_nil_of_le (by omega)]
 rfl
theorem AR (x y:ByteArray):(x++y).data.toList=x.data.toList++y.data.toList:=by rw [ByteArray.data_append,Array.toList_append]
theorem one_byte {s : ByteArray} {k : Nat} (hk : k < s.size) : (s.extract k (k + 1)).data.toList = [s[k]'hk]:=by
 have hsl:s.data.toList.length=s.size:=by rw [Array.length_toList]; rfl
 rw [Lib.extract_data,show k+1 - k=1 by omega,List.drop_eq_getElem_cons (by omega)]
 rfl
theorem CS (s : ByteArray) (i : Nat) (w : World) (hs : s.size ≤ 256) (hi : i < s.size) (h34 : s[i]'hi = 34) :
  Calls prog 223 #[.string s,.int .i64 (i:Int)] w fun e w'=>Ak i (gb (aK s i) i) e∧Below w.heap.size w w':=by
 have H34:=keep h34
 clear h34
 have H1:=Lib.hid (Ok.start w)
 go_enter func223,ntmps223
 go_wp2_with fail
 have H2:=Lib.hid ((H1.out.var w.heap.size 97 [.int .u8 0,.int .i64 0,.string ⟨#[]⟩,.int .i64 0,.int .i64 0,.int .i64 0,.int .i64 0,.int .i64 0] rfl).var (w.heap.size+1) 97 [.int .u8 2,.int .i64 0,.string ⟨#[]⟩,.int .i64 0,.int .i64 0,.int .i64 0,.int .i64 0,.int .i64 (i:Int)] (by simp))
 clear H1
 generalize ((w.alloc (.cells #[.int .u8 0,.int .i64 0,.string ⟨#[]⟩,.int .i64 0,.int .i64 0,.int .i64 0,.int .i64 0,.int .i64 0] 97)).alloc (.cells #[.int .u8 2,.int .i64 0,.string ⟨#[]⟩,.int .i64 0,.int .i64 0,.int .i64 0,.int .i64 0,.int .i64 (i:Int)] 97))=W3 at H2 ⊢
 go_loopw [8] (fun kv wr=>∃ (k:Nat) (X:ByteArray),i+1≤k∧k≤s.size∧X.size≤k∧kv=.int .i64 (k:Int)∧ao (fg s (i+1) k X.data.toList)∧Hid (Ok w [af (w.heap.size+1) 97 [.int .u8 2,.int .i64 0,.string X,.int .i64 0,.int .i64 0,.int .i64 0,.int .i64 0,.int .i64 (i:Int)],af (w.heap.size) 97 [.int .u8 0,.int .i64 0,.string ⟨#[]⟩,.int .i64 0,.int .i64 0,.int .i64 0,.int .i64 0,.int .i64 0]] wr)) (fun kv _=>s.size - (intOf kv).toNat)
 case atStart=>exact ⟨i+1,⟨#[]⟩,Nat.le_refl _,hi,Nat.zero_le _,by go_num,keep (fg.start _ _),H2⟩
 case round =>
  clear H2
  obtain ⟨k,X,hk1,hk,hX,rfl,HK,HR⟩:=hrel
  obtain ⟨wp,rfl⟩:∃ wp:World,wp=wr:=⟨_,rfl⟩
  by_cases hlt:(k:Int)<s.size
  ·have hks:k<s.size:=by omega
   by_cases h3 : ((s[k]'hks).toNat : Int) = 34
   ·have H3:=keep (show s[k]'hks = 34 by rw [← UInt8.toNat_inj]; show _ = 34; omega)
    have hb3 : (((s[k]'hks).toNat : Int) != 34) = false:=by rw [h3]; rfl
    clear h3
    have ht1:((k:Int)+1).toNat=k+1:=by omega
    by_cases h4:(k:Int)+1<s.size
    ·have hks1:k+1<s.size:=by omega
     by_cases h5 : ((s[k + 1]'hks1).toNat : Int) = 34
     ·have H5:=keep (show s[k + 1]'hks1 = 34 by rw [← UInt8.toNat_inj]; show _ = 34; omega)
      have hb5 : (((s[k + 1]'hks1).toNat : Int) == 34) = true:=by rw [h5]; rfl
      clear h5
      have F4:=sE HR
      have HX2:=keep (show fg s (i+1) (k+2) (X++(⟨#[34]⟩:ByteArray)).data.toList by rw [AR]; exact fg.pair HK.out hk1 hks1 H3.out H5.out)
      have HXS:=show (X++(⟨#[34]⟩:ByteArray)).size≤k+2 by rw [ByteArray.size_append]; show X.size+1≤_; omega
      go_wp2_with fail
      clear F4
      have HS:=Lib.hid (HR.out.set_ (i:=2) (u:=.string (X++(⟨#[34]⟩:ByteArray))) (by omega) (by simp [af]))
      go_roundw
      case rel=>exact ⟨k+2,X++(⟨#[34]⟩:ByteArray),by omega,by omega,HXS,by go_num,HX2,HS⟩
      case measure=>simp [intOf]; omega
     have H5:=keep (show s[k + 1]'hks1 ≠ 34 by intro e; rw [e] at h5; exact h5 rfl)
     have hb5 : (((s[k + 1]'hks1).toNat : Int) == 34) = false:=by simpa using h5
     clear h5
     have HRES:=keep (px hi H34.out (fg.last HK.out hk1 hks H3.out (fun _=>H5.out)))
     have hke:(k:Int)+1=((k+1:Nat):Int):=by omega
     have HKE:=keep hke
     clear hke
     have F4:=sE HR
     go_wp2_with fail
     exact e8_ [.int .i64 ((k:Int)+1),.bool true] HR (fun W h=>by simp [results,results223,go_sem,h]) (fun h=>⟨by rw [HKE.out]; exact f5 (k+1) HRES.out (by omega),h⟩)
    have HRES:=keep (px hi H34.out (fg.last HK.out hk1 hks H3.out (fun h=>absurd h (by omega))))
    have hke:(k:Int)+1=((k+1:Nat):Int):=by omega
    have HKE:=keep hke
    clear hke
    have F4:=sE HR
    go_wp2_with fail
    exact e8_ [.int .i64 ((k:Int)+1),.bool true] HR (fun W h=>by simp [results,results223,go_sem,h]) (fun h=>⟨by rw [HKE.out]; exact f5 (k+1) HRES.out (by omega),h⟩)
   have H3:=keep (show s[k]'hks ≠ 34 by intro e; rw [e] at h3; exact h3 rfl)
   have hb3 : (((s[k]'hks).toNat : Int) != 34) = true:=by simpa using h3
   clear h3
   have HX2:=keep (show fg s (i+1) (k+1) (X++s.extract k (k+1)).data.toList by rw [AR,one_byte hks]; exact fg.step HK.out hk1 hks H3.out)
   have HXS:=show (X++s.extract k (k+1)).size≤k+1 by rw [ByteArray.size_append,ByteArray.size_extract]; omega
   have ht1:((k:Int)+1).toNat=k+1:=by omega
   have hw1:IntKind.i64.wrap ((k:Int)+1)=(k:Int)+1:=Go.IntWalk.i64_in _ (by omega)
   have hc0:(0:Int)≤(k:Int)+1:=by omega
   have hc1:(k:Int)≤(k:Int)+1:=by omega
   have hc2:(k:Int)+1≤(s.size:Int):=by omega
   go_upto_region 6 with fail
   have HD:=Lib.hid HR.out.drew
   refine wp_region_any (by kernel_rfl) ?_
   change wpAny _ _ _ _ _ _ _ wp.drew
   generalize wp.drew=W1 at HD ⊢
   have F4:=sE HD
   refine wt5 0 ?_
   refine wt5 2 ?_
   refine wt5 3 ?_
   refine wt5 4 ?_
   refine wt5 5 ?_
   refine wt5 6 ?_
   refine wan 1 fun K hK => ?_
   ·go_simp
    refine hK _ _ ?_
    clear hK K
    refine wm ?_
    refine wt5 7 ?_
    refine wt5 8 ?_
    refine wan 9 fun K hK => ?_
    ·go_simp
     refine hK _ _ ?_
     clear hK K
     refine wm ?_
     refine wpAny_done (by kernel_rfl) ?_ _
     have HS:=Lib.hid (HD.out.set_ (i:=2) (u:=.string (X++s.extract k (k+1))) (by omega) (by simp [af]))
     clear F4
     go_wp2_with fail
     go_roundw
     case rel=>exact ⟨k+1,X++s.extract k (k+1),by omega,by omega,HXS,by go_num,HX2,HS⟩
     case measure=>simp [intOf]; omega
  obtain rfl:k=s.size:=by omega
  have HN:=keep (si hi H34.out (fg.out HK.out))
  have F4:=sE HR
  go_wp2_with fail
  exact e8_ [.int .i64 0,.bool false] HR (fun W h=>by simp [results,results223,go_sem,h]) (fun h=>⟨zM ⟨2,0,X.data.toList,R4.zero,i⟩ HN.out,h⟩)
theorem Cw (b:UInt8):dz (upB b)=dz b:=by
 by_cases h:97≤b.toNat∧b.toNat≤122
 ·have:=pz b h
  unfold dz
  rw [if_pos (by omega),if_neg (by omega),if_pos h]
  omega
 rw [ii b h]
theorem El (b:UInt8):ah (upB b)=ah b:=by
 by_cases h:97≤b.toNat∧b.toNat≤122
 ·have:=pz b h
  unfold ah
  rw [decide_eq_false (by omega),decide_eq_false (by omega)]
 rw [ii b h]
theorem Eu (b:UInt8):ar (upB b)=ar b:=by unfold ar; rw [Cw]
theorem BK (l:List UInt8):aJ (l.map upB)=aJ l:=by
 have hp:(ar∘upB)=ar:=funext Eu
 have h1:(l.map upB).takeWhile ar=(l.takeWhile ar).map upB:=by rw [List.takeWhile_map,hp]
 have h2:(l.map upB).dropWhile ar=(l.dropWhile ar).map upB:=by rw [List.dropWhile_map,hp]
 have h3:cC ((l.takeWhile ar).map upB)=cC (l.takeWhile ar):=by
  unfold cC
  rw [List.foldl_map]
  congr 1
  funext n b
  unfold iW
  rw [Cw]
 have h4:((l.dropWhile ar).map upB).all ah=(l.dropWhile ar).all ah:=by
  rw [List.all_map]
  congr 1
  exact funext El
 unfold aJ
 simp only [h1,h2,h3,h4,List.map_eq_nil_iff]
 by_cases hd:(l.dropWhile ar).all ah=true
 ·have h5:(l.dropWhile ar).map upB=l.dropWhile ar:=by
   have:∀ b∈l.dropWhile ar,upB b=b:=by
    intro b hb
    have h6:=List.all_eq_true.1 hd b hb
    unfold ah at h6
    exact ii b (by simp at h6; omega)
   exact (List.map_congr_left this).trans (List.map_id _)
  rw [h5]
 rw [if_pos (by simp [hd]),if_pos (by simp [hd])]
def zY (l x:List UInt8):Bool:=decide ((l.take x.length).map upB=x)
theorem CF {l x:List UInt8} (h:l.length<x.length):zY l x=false:=by
 unfold zY
 rw [decide_eq_false]
 intro e
 have:=congrArg List.length e
 rw [List.length_map,List.length_take] at this
 omega
theorem CE {s x U:ByteArray} {i q:Nat} (hq:i+x.size=q) (hU:U.data.toList=(s.extract i q).data.toList.map upB):(U.toList == x.toList)=zY (aK s i) x.data.toList:=by
 have hx:x.data.toList.length=x.size:=by rw [Array.length_toList]; rfl
 rw [Lib.toList_data,Lib.toList_data,hU,Bool.eq_iff_iff,beq_iff_eq]
 unfold zY aK
 rw [decide_eq_true_eq,Lib.extract_data,hx,show q - i=x.size by omega]
theorem AA (s x:ByteArray) (i:Nat) (w:World) (hs:s.size≤256) (hx:x.size≤16) (hi:i≤s.size) :
  Calls prog 239 #[.string s,.int .i64 (i:Int),.string x] w fun e w'=>e=.returned (.bool (zY (aK s i) x.data.toList))∧Below w.heap.size w w':=by
 have hxl:x.data.toList.length=x.size:=by rw [Array.length_toList]; rfl
 have hrl:(aK s i).length+i=s.size:=by unfold aK; rw [List.length_drop,Array.length_toList]; show s.size - i+i=_; omega
 obtain ⟨q,hq⟩:=ex (i+x.size)
 have HQ:=keep hq
 have hqi:(i:Int)+(x.size:Int)=(q:Int):=by omega
 have hiq:(i:Int)≤q:=by omega
 by_cases h:(q:Int)≤s.size
 ·have hBB:∀ U:ByteArray,U.data.toList=(s.extract i q).data.toList.map upB→(U.toList == x.toList)=zY (aK s i) x.data.toList:=fun U h=>CE hq h
  have HBB:=keep hBB
  clear hBB
  clear hxl hrl hq
  go_enter func239,ntmps239
  go_wp2_with fail
  refine (jR (s.extract i q) _ (by rw [ByteArray.size_extract]; omega)).mono ?_
  rintro e w1 ⟨rfl,hb⟩
  have HW:=Lib.hid hb
  clear hb
  obtain ⟨U,hU⟩:∃ U:ByteArray,U=⟨((s.extract i q).data.toList.map upB).toArray⟩:=⟨_,rfl⟩
  rw [← hU]
  have HB:=keep (HBB.out U (by rw [hU]))
  clear hU
  go_wp2_with fail
  go_ret
  refine ⟨?_,HW.out⟩
  show Ending.returned (Value.bool (U.toList == x.toList))=_
  rw [HB.out]
 have HB:=keep (CF (l:=aK s i) (x:=x.data.toList) (by rw [hxl]; omega))
 clear hxl hrl hq
 go_enter func239,ntmps239
 go_wp2_with fail
 go_ret
 refine ⟨?_,Below.refl _ _⟩
 show Ending.returned (Value.bool false)=_
 rw [HB.out]
def B0 (i:Nat) (r:Option (Int×Int×Nat)) (e:Ending):Prop:=∃ (c t:Int) (n:Nat),e=.returned (.tuple #[.agg #[.int .i64 c,.int .i64 t],.int .i64 (n:Int),.bool r.isSome])∧∀ x,r=some x→c=x.1∧t=x.2.1∧n=i+x.2.2
theorem Ad {i:Nat} {r:Option (Int×Int×Nat)} (c t:Int) (n:Nat) (h:r=none):B0 i r (.returned (.tuple #[.agg #[.int .i64 c,.int .i64 t],.int .i64 (n:Int),.bool false])) :=
 ⟨c,t,n,by rw [h]; rfl,fun x hx=>by rw [h] at hx; cases hx⟩
theorem Az {i n:Nat} {r:Option (Int×Int×Nat)} {c t:Int} (m:Nat) (h:r=some (c,t,n)) (hm:m=i+n):B0 i r (.returned (.tuple #[.agg #[.int .i64 c,.int .i64 t],.int .i64 (m:Int),.bool true])) :=
 ⟨c,t,m,by rw [h]; rfl,fun x hx=>by rw [h] at hx; cases hx; exact ⟨rfl,rfl,hm⟩⟩
theorem addr_eq (s:ByteArray) (i z:Nat) (c r e:Int) (hl:bk ar s i=true) (hz:i+(bC s i).length=z) (hp:aJ (bC s i)=(c,r,e)) :
  fi (aK s i)=if e=0∧bk (· == 40) s z=false then some (c,r,(bC s i).length) else none:=by
 have hw:(aK s i).takeWhile au=bC s i:=rfl
 have hh:(aK s i).head?.any ar=true:=by
  unfold aK
  rw [List.head?_drop]
  exact hl
 have hd:((aK s i).dropWhile au).head?=s.data.toList[z]?:=by
  have h1:=(br au (aK s i)).1
  have h2:(aK s i).dropWhile au=(aK s i).drop (bC s i).length:=by
   conv=>rhs; rw [h1]
   rw [hw,List.drop_left]
  rw [h2]
  unfold aK
  rw [List.drop_drop,List.head?_drop,hz]
 unfold fi
 simp only [hw,hh,hd,BK,hp,true_and]
 unfold bk
 cases s.data.toList[z]? with
 | none=>simp
 | some b=>simp
theorem DO (s:ByteArray) (i:Nat) (hl:bk ar s i=false):fi (aK s i)=none:=by
 have hh:(aK s i).head?.any ar=false:=by
  unfold aK
  rw [List.head?_drop]
  exact hl
 unfold fi
 simp [hh]
theorem Cz (s:ByteArray) (i z:Nat) (hz:i+(bC s i).length=z):(s.extract i z).data.toList=bC s i:=by
 rw [Lib.extract_data,← hz,Nat.add_sub_cancel_left]
 exact BX au (aK s i)
theorem DK (s:ByteArray) (i:Nat) (hi:i≤s.size):i+(bC s i).length≤s.size:=by
 have h1:(bC s i).length≤(s.data.toList.drop i).length:=(List.takeWhile_sublist _).length_le
 have hsl:s.data.toList.length=s.size:=by rw [Array.length_toList]; rfl
 rw [List.length_drop] at h1
 omega
theorem Ci {s : ByteArray} {z : Nat} (h : z < s.size) : bk (· == 40) s z = decide (((s[z]'h).toNat : Int) = 40):=by
 rw [zD h,Bool.eq_iff_iff,beq_iff_eq,decide_eq_true_eq,← UInt8.toNat_inj]
 show _=40↔_
 omega
theorem Aq (s:ByteArray) (i:Nat) (w:World) (hs:s.size≤256) (hi:i≤s.size) :
  Calls prog 237 #[.string s,.int .i64 (i:Int)] w fun e w'=>B0 i (fi (aK s i)) e∧Below w.heap.size w w':=by
 cases hl:bk ar s i
 ·have HL:=keep hl
  clear hl
  have H1:=Lib.hid (Ok.start w)
  go_enter func237,ntmps237
  go_wp2_with fail
  have H2:=Lib.hid (H1.out.var w.heap.size 46 [.int .i64 0,.int .i64 0] rfl)
  clear H1
  generalize (w.alloc (.cells #[.int .i64 0,.int .i64 0] 46))=W3 at H2 ⊢
  refine (zx s i _).mono ?_
  rintro e w4 ⟨rfl,hw5⟩
  obtain rfl:W3=w4:=hw5.symm
  rw [HL.out]
  have F6:=sE H2
  go_wp2_with fail
  have hK:=H2.out.get (af (w.heap.size) 46 [.int .i64 0,.int .i64 0]) (by simp)
  have hB:=H2.out.bel
  have hE:=(((show Blk W3 (w.heap.size) 46 _ from hK).set_ 0 (.int .i64 0)).set_ 1 (.int .i64 0))
  refine bodyPost_ret (v:=.tuple #[.agg #[.int .i64 0,.int .i64 0],.int .i64 0,.bool false]) (by simp [results,results237,go_sem,hE.cell]) rfl ⟨Ad 0 0 0 (DO s i HL.out),(sC (sC hB _) _)⟩
 have HL:=keep hl
 clear hl
 obtain ⟨z,hz⟩:=ex (i+(bC s i).length)
 have hzs:z≤s.size:=by rw [← hz]; exact DK s i hi
 have hiz:i≤z:=by omega
 obtain ⟨c,r,e0,hp⟩:∃ c r e0,aJ (bC s i)=(c,r,e0):=⟨_,_,_,rfl⟩
 have HEQ:=keep (addr_eq s i z c r e0 HL.out hz hp)
 have HZ:=keep hz
 have HP:=keep (show aJ (s.extract i z).data.toList=(c,r,e0) by rw [Cz s i z hz]; exact hp)
 clear hz hp
 have H1:=Lib.hid (Ok.start w)
 go_enter func237,ntmps237
 go_wp2_with fail
 have H2:=Lib.hid (H1.out.var w.heap.size 46 [.int .i64 0,.int .i64 0] rfl)
 clear H1
 generalize (w.alloc (.cells #[.int .i64 0,.int .i64 0] 46))=W3 at H2 ⊢
 refine (zx s i _).mono ?_
 rintro e w4 ⟨rfl,hw5⟩
 obtain rfl:W3=w4:=hw5.symm
 rw [HL.out]
 go_wp2_with fail
 refine (Ar s i _ (by omega) hi).mono ?_
 rintro e w7 ⟨rfl,hw7⟩
 obtain rfl:W3=w7:=hw7.symm
 rw [HZ.out]
 go_wp2_with fail
 refine cM (CW (s.extract i z) _ (by rw [ByteArray.size_extract]; omega)) H2 fun w6 H8=>?_
 rw [HP.out]
 clear H2
 have F9:=sE H8
 go_upto_region 5 with fail
 clear F9
 have H10:=Lib.hid (H8.out.alloc w6.heap.size 46 [.int .i64 c,.int .i64 r] rfl)
 clear H8
 generalize (w6.alloc (.cells #[.int .i64 c,.int .i64 r] 46))=W11 at H10 ⊢
 have HD:=Lib.hid H10.out.drew
 clear H10
 by_cases h0:e0=0
 ·subst h0
  by_cases hzl:(z:Int)=s.size
  ·have hzb:((z:Int) == (s.size:Int))=true:=by simpa using hzl
   have HRES:=keep (show fi (aK s i)=some (c,r,(bC s i).length) by rw [HEQ.out,if_pos ⟨rfl,zN (by omega)⟩])
   clear hzl
   refine wp_region_any (by kernel_rfl) ?_
   change wpAny _ _ _ _ _ _ _ W11.drew
   generalize W11.drew=W9 at HD ⊢
   have F12:=sE HD
   refine wt5 1 ?_
   refine wt5 2 ?_
   refine wt5 3 ?_
   refine wt5 4 ?_
   refine wt5 5 ?_
   refine wt5 6 ?_
   refine wt5 7 ?_
   refine wt5 8 ?_
   refine wt5 9 ?_
   refine wpAny_take (i:=10) (v:=undef) rfl (by kernel_rfl) (by kernel_rfl) (by kernel_rfl) (fun _ _ _ h=>h) (Or.inr ⟨by rfl,rfl⟩) ?_
   try simp only [Act.put,wp1,wp2,wp3,wp4,wp5,wp6]
   refine wpAny_take (i:=11) (v:=undef) rfl (by kernel_rfl) (by kernel_rfl) (by kernel_rfl) (fun _ _ _ h=>h) (Or.inr ⟨by rfl,rfl⟩) ?_
   try simp only [Act.put,wp1,wp2,wp3,wp4,wp5,wp6]
   refine wpAny_take (i:=12) (v:=undef) rfl (by kernel_rfl) (by kernel_rfl) (by kernel_rfl) (fun _ _ _ h=>h) (Or.inr ⟨by rfl,rfl⟩) ?_
   try simp only [Act.put,wp1,wp2,wp3,wp4,wp5,wp6]
   refine wpAny_take (i:=13) (v:=undef) rfl (by kernel_rfl) (by kernel_rfl) (by kernel_rfl) (fun _ _ _ h=>h) (Or.inr ⟨by rfl,rfl⟩) ?_
   try simp only [Act.put,wp1,wp2,wp3,wp4,wp5,wp6]
   refine wt5 14 ?_
   refine wt5 15 ?_
   refine wan 0 fun K hK => ?_
   ·go_simp
    refine hK _ _ ?_
    clear hK K
    refine wm ?_
    refine wan 16 fun K hK => ?_
    ·go_simp
     refine hK _ _ ?_
     clear hK K
     refine wm ?_
     refine wt5 17 ?_
     refine wt5 18 ?_
     refine wpAny_done (by kernel_rfl) ?_ _
     go_wp2_with fail
     have hK:=HD.out.get (af (w.heap.size) 46 [.int .i64 0,.int .i64 0]) (by simp)
     have hB:=HD.out.bel
     have hE:=(((show Blk W9 (w.heap.size) 46 _ from hK).set_ 0 (.int .i64 c)).set_ 1 (.int .i64 r))
     refine bodyPost_ret (v:=.tuple #[.agg #[.int .i64 c,.int .i64 r],.int .i64 (z:Int),.bool true]) (by simp [results,results237,go_sem,hE.cell]) rfl ⟨Az z HRES.out HZ.out.symm,(sC (sC hB _) _)⟩
  have hzb:((z:Int) == (s.size:Int))=false:=by simpa using hzl
  have hzl2:z<s.size:=by omega
  by_cases h40 : ((s[z]'hzl2).toNat : Int) = 40
  ·have hb40 : (((s[z]'hzl2).toNat : Int) != 40) = false:=by rw [h40]; rfl
   have HRES:=keep (show fi (aK s i)=none by rw [HEQ.out,if_neg]; rintro ⟨-,h⟩; rw [Ci hzl2,decide_eq_true h40] at h; cases h)
   clear h40 hzl
   refine wp_region_any (by kernel_rfl) ?_
   change wpAny _ _ _ _ _ _ _ W11.drew
   generalize W11.drew=W9 at HD ⊢
   have F12:=sE HD
   refine wt5 1 ?_
   refine wt5 2 ?_
   refine wt5 3 ?_
   refine wt5 4 ?_
   refine wt5 5 ?_
   refine wt5 6 ?_
   refine wt5 7 ?_
   refine wt5 8 ?_
   refine wt5 9 ?_
   refine wt5 10 ?_
   refine wt5 11 ?_
   refine wt5 12 ?_
   refine wt5 13 ?_
   refine wt5 14 ?_
   refine wt5 15 ?_
   refine wan 0 fun K hK => ?_
   ·go_simp
    refine hK _ _ ?_
    clear hK K
    refine wm ?_
    refine wan 16 fun K hK => ?_
    ·go_simp
     refine hK _ _ ?_
     clear hK K
     refine wm ?_
     refine wt5 17 ?_
     refine wt5 18 ?_
     refine wpAny_done (by kernel_rfl) ?_ _
     go_wp2_with fail
     have hK:=HD.out.get (af (w.heap.size) 46 [.int .i64 0,.int .i64 0]) (by simp)
     have hB:=HD.out.bel
     have hE:=(((show Blk W9 (w.heap.size) 46 _ from hK).set_ 0 (.int .i64 c)).set_ 1 (.int .i64 r))
     refine bodyPost_ret (v:=.tuple #[.agg #[.int .i64 c,.int .i64 r],.int .i64 (z:Int),.bool false]) (by simp [results,results237,go_sem,hE.cell]) rfl ⟨Ad c r z HRES.out,(sC (sC hB _) _)⟩
  have hb40 : (((s[z]'hzl2).toNat : Int) != 40) = true:=by simpa using h40
  have HRES:=keep (show fi (aK s i)=some (c,r,(bC s i).length) by rw [HEQ.out,if_pos ⟨rfl,by rw [Ci hzl2,decide_eq_false h40]⟩])
  clear h40 hzl
  refine wp_region_any (by kernel_rfl) ?_
  change wpAny _ _ _ _ _ _ _ W11.drew
  generalize W11.drew=W9 at HD ⊢
  have F12:=sE HD
  refine wt5 1 ?_
  refine wt5 2 ?_
  refine wt5 3 ?_
  refine wt5 4 ?_
  refine wt5 5 ?_
  refine wt5 6 ?_
  refine wt5 7 ?_
  refine wt5 8 ?_
  refine wt5 9 ?_
  refine wt5 10 ?_
  refine wt5 11 ?_
  refine wt5 12 ?_
  refine wt5 13 ?_
  refine wt5 14 ?_
  refine wt5 15 ?_
  refine wan 0 fun K hK => ?_
  ·go_simp
   refine hK _ _ ?_
   clear hK K
   refine wm ?_
   refine wan 16 fun K hK => ?_
   ·go_simp
    refine hK _ _ ?_
    clear hK K
    refine wm ?_
    refine wt5 17 ?_
    refine wt5 18 ?_
    refine wpAny_done (by kernel_rfl) ?_ _
    go_wp2_with fail
    have hK:=HD.out.get (af (w.heap.size) 46 [.int .i64 0,.int .i64 0]) (by simp)
    have hB:=HD.out.bel
    have hE:=(((show Blk W9 (w.heap.size) 46 _ from hK).set_ 0 (.int .i64 c)).set_ 1 (.int .i64 r))
    refine bodyPost_ret (v:=.tuple #[.agg #[.int .i64 c,.int .i64 r],.int .i64 (z:Int),.bool true]) (by simp [results,results237,go_sem,hE.cell]) rfl ⟨Az z HRES.out HZ.out.symm,(sC (sC hB _) _)⟩
 have h0b:(e0 == 0)=false:=by simpa using h0
 have HRES:=keep (show fi (aK s i)=none by rw [HEQ.out,if_neg]; rintro ⟨h,-⟩; exact h0 h)
 clear h0
 refine wp_region_any (by kernel_rfl) ?_
 change wpAny _ _ _ _ _ _ _ W11.drew
 generalize W11.drew=W9 at HD ⊢
 have F12:=sE HD
 refine wt5 1 ?_
 refine wt5 2 ?_
 refine wt5 3 ?_
 refine wt5 4 ?_
 refine wpAny_take (i:=5) (v:=undef) rfl (by kernel_rfl) (by kernel_rfl) (by kernel_rfl) (fun _ _ _ h=>h) (Or.inr ⟨by rfl,rfl⟩) ?_
 try simp only [Act.put,wp1,wp2,wp3,wp4,wp5,wp6]
 refine wpAny_take (i:=6) (v:=undef) rfl (by kernel_rfl) (by kernel_rfl) (by kernel_rfl) (fun _ _ _ h=>h) (Or.inr ⟨by rfl,rfl⟩) ?_
 try simp only [Act.put,wp1,wp2,wp3,wp4,wp5,wp6]
 refine wpAny_take (i:=7) (v:=undef) rfl (by kernel_rfl) (by kernel_rfl) (by kernel_rfl) (fun _ _ _ h=>h) (Or.inr ⟨by rfl,rfl⟩) ?_
 try simp only [Act.put,wp1,wp2,wp3,wp4,wp5,wp6]
 refine wpAny_take (i:=8) (v:=undef) rfl (by kernel_rfl) (by kernel_rfl) (by kernel_rfl) (fun _ _ _ h=>h) (Or.inr ⟨by rfl,rfl⟩) ?_
 try simp only [Act.put,wp1,wp2,wp3,wp4,wp5,wp6]
 refine wpAny_take (i:=9) (v:=undef) rfl (by kernel_rfl) (by kernel_rfl) (by kernel_rfl) (fun _ _ _ h=>h) (Or.inr ⟨by rfl,rfl⟩) ?_
 try simp only [Act.put,wp1,wp2,wp3,wp4,wp5,wp6]
 refine wpAny_take (i:=10) (v:=undef) rfl (by kernel_rfl) (by kernel_rfl) (by kernel_rfl) (fun _ _ _ h=>h) (Or.inr ⟨by rfl,rfl⟩) ?_
 try simp only [Act.put,wp1,wp2,wp3,wp4,wp5,wp6]
 refine wpAny_take (i:=11) (v:=undef) rfl (by kernel_rfl) (by kernel_rfl) (by kernel_rfl) (fun _ _ _ h=>h) (Or.inr ⟨by rfl,rfl⟩) ?_
 try simp only [Act.put,wp1,wp2,wp3,wp4,wp5,wp6]
 refine wpAny_take (i:=12) (v:=undef) rfl (by kernel_rfl) (by kernel_rfl) (by kernel_rfl) (fun _ _ _ h=>h) (Or.inr ⟨by rfl,rfl⟩) ?_
 try simp only [Act.put,wp1,wp2,wp3,wp4,wp5,wp6]
 refine wpAny_take (i:=13) (v:=undef) rfl (by kernel_rfl) (by kernel_rfl) (by kernel_rfl) (fun _ _ _ h=>h) (Or.inr ⟨by rfl,rfl⟩) ?_
 try simp only [Act.put,wp1,wp2,wp3,wp4,wp5,wp6]
 refine wpAny_take (i:=14) (v:=undef) rfl (by kernel_rfl) (by kernel_rfl) (by kernel_rfl) (fun _ _ _ h=>h) (Or.inr ⟨by rfl,rfl⟩) ?_
 try simp only [Act.put,wp1,wp2,wp3,wp4,wp5,wp6]
 refine wt5 15 ?_
 refine wan 0 fun K hK => ?_
 ·go_simp
  refine hK _ _ ?_
  clear hK K
  refine wm ?_
  refine wan 16 fun K hK => ?_
  ·go_simp
   refine hK _ _ ?_
   clear hK K
   refine wm ?_
   refine wt5 17 ?_
   refine wt5 18 ?_
   refine wpAny_done (by kernel_rfl) ?_ _
   go_wp2_with fail
   have hK:=HD.out.get (af (w.heap.size) 46 [.int .i64 0,.int .i64 0]) (by simp)
   have hB:=HD.out.bel
   have hE:=(((show Blk W9 (w.heap.size) 46 _ from hK).set_ 0 (.int .i64 c)).set_ 1 (.int .i64 r))
   refine bodyPost_ret (v:=.tuple #[.agg #[.int .i64 c,.int .i64 r],.int .i64 (z:Int),.bool false]) (by simp [results,results237,go_sem,hE.cell]) rfl ⟨Ad c r z HRES.out,(sC (sC hB _) _)⟩
end
