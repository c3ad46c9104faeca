/- Contracts of the reference's Column and Parse of addresses. The contract of glyph.printable. The contract of glyph.Unquote, at the literals that the lexer finds. -/
import Derived.Test.YtdplcdhpnmcdjaaGreatDoorKAddP6
import Derived.Test.YtdplcdhpnmcdjaaGreatDoorKVal
import Derived.Lib.IndexBytes
import Derived.Test.YtdplcdhpnmcdjaaGreatDoorKLexC
import Derived.Test.YtdplcdhpnmcdjaaGreatDoorKTg
import Derived.Test.YtdplcdhpnmcdjaaGreatDoorKLexP
import Derived.Laws.RangeString
import Derived.Laws.RangeAny
import Derived.Laws.BytesArg
import Derived.Lib.BufferRead
import Derived.WalkMore
namespace Go.Proofs.YtdplcdhpnmcdjaaGreatDoor
set_option maxRecDepth 100000
set_option maxHeartbeats 4000000
open Go.RowKit Go.Proofs.Tryz
theorem D3 (b:UInt8):dz b≤26:=by unfold dz; split <;> (try split) <;> omega
theorem A6 (b:UInt8):ar b=true↔dz b≠0:=by simp [ar]
theorem zJ (b:UInt8) (w:World) :
  Calls prog 258 #[.int .u8 (b.toNat:Nat)] w fun e w'=>e=.returned (.int .i64 (dz b:Nat))∧w=w':=by
 have hb:b.toNat<256:=b.toNat_lt
 rcases (show (65≤b.toNat∧b.toNat≤90)∨(97≤b.toNat∧b.toNat≤122)∨(b.toNat<65)∨(90<b.toNat∧b.toNat<97)∨(122<b.toNat) from by omega) with ⟨h1,h2⟩ | ⟨h1,h2⟩ | h1 | ⟨h1,h2⟩ | h1
 ·have e:dz b=b.toNat - 64:=by unfold dz; rw [if_pos ⟨h1,h2⟩]
  rw [e]
  clear e
  go_enter func258,ntmps258
  go_wp2
  go_ret
  exact ⟨by simp; omega,rfl⟩
 ·have e:dz b=b.toNat - 96:=by unfold dz; rw [if_neg (by omega),if_pos ⟨h1,h2⟩]
  rw [e]
  clear e
  go_enter func258,ntmps258
  go_wp2
  go_ret
  exact ⟨by simp; omega,rfl⟩
 all_goals
  have e:dz b=0:=by unfold dz; rw [if_neg (by omega),if_neg (by omega)]
  rw [e]
  clear e
  go_enter func258,ntmps258
  go_wp2
  go_ret
  exact ⟨rfl,rfl⟩
theorem Bt (l:List UInt8) (b:UInt8) (h:l.all ar=true) (hb:ar b=true):(l++[b]).all ar=true:=by simp [List.all_append,h,hb]
theorem Bw (s:ByteArray) (k:Nat) (h:k<s.size) (hb:ar s[k]=false):zS s.data.toList=(0,4):=by
 unfold zS
 rw [if_pos]
 right
 rw [List.all_eq_false]
 exact ⟨s[k],by rw [show s[k] = s.data.toList[k]'(by simpa using h) from rfl]; exact List.getElem_mem _,by simp [hb]⟩
theorem Am (s:ByteArray) (w:World) (hs:s.size≤4611686018427387904) :
  Calls prog 259 #[.string s] w fun e w'=>e=.returned (.tuple #[.int .i64 (zS s.data.toList).1,.int .i64 (zS s.data.toList).2])∧w=w':=by
 go_enter func259,ntmps259
 go_wp2_with fail
 go_loop [4,5] (fun n i=>∃ k:Nat,k≤s.size∧i=.int .i64 k∧n=.int .i64 (cC (s.data.toList.take k):Nat)∧(s.data.toList.take k).all ar=true) (fun _ i=>s.size - (intOf i).toNat)
 case atStart=>exact ⟨0,Nat.zero_le _,rfl,rfl,rfl⟩
 case round =>
  obtain ⟨k,hk,rfl,rfl,hall⟩:=hrel
  have HA:=Lib.hid hall
  clear hall
  have hco:=Bv (s.data.toList.take k)
  by_cases hlt:k<s.size
  ·have hsn:=j2 s k hlt
   have HS:=Lib.hid hsn
   clear hsn
   have hle:=D3 s[k]
   by_cases hz:dz s[k]=0
   ·have HZ:=Lib.hid hz
    have hzb:((dz s[k]:Int) == 0)=true:=by simp [hz]
    clear hz
    go_wp2_with (go_at_call 258; refine (zJ s[k] _).mono ?_; rintro e w' ⟨rfl,rfl⟩)
    go_ret2
    rw [Bw s k hlt (by simp [ar,HZ.out])]
    exact ⟨rfl,rfl⟩
   have HZ:=Lib.hid hz
   have hzb:((dz s[k]:Int) == 0)=false:=by simp [hz]
   clear hz
   go_wp2_with (go_at_call 258; refine (zJ s[k] _).mono ?_; rintro e w' ⟨rfl,rfl⟩)
   go_round
   case rel =>
    refine ⟨k+1,by omega,by go_num,?_,?_⟩
    ·rw [HS.out,jl]; congr 1; omega
    rw [HS.out]; exact Bt _ _ HA.out ((A6 _).2 HZ.out)
   case measure=>simp [intOf]; omega
  have hke:s.data.toList.take k=s.data.toList:=List.take_of_length_le (by simp; omega)
  rw [hke] at hco ⊢
  have hA:=HA.out
  rw [hke] at hA
  have HAA:=Lib.hid hA
  clear HA hA hke
  have hcase:zS s.data.toList=if s.data.toList=[] then (0,4) else if 1024<cC s.data.toList then (0,3) else (((cC s.data.toList:Nat):Int),0):=by
   unfold zS
   by_cases h:s.data.toList=[]
   ·rw [if_pos (.inl h),if_pos h]
   rw [if_neg (by simp only [h,HAA.out]; simp),if_neg h]
  have HC:=Lib.hid hcase
  clear hcase
  by_cases h0:s.data.toList=[]
  ·have hc0:cC s.data.toList=0:=by rw [h0]; rfl
   rw [hc0] at hco ⊢
   have H0:=Lib.hid h0
   clear h0 hc0
   go_wp2_with fail
   go_ret2
   rw [HC.out,if_pos H0.out]
   exact ⟨rfl,rfl⟩
  have hp:=ky _ h0 (List.all_eq_true.1 HAA.out)
  have H0:=Lib.hid h0
  clear h0
  generalize cC s.data.toList=c at hp hco HC ⊢
  have hcb:((c:Int) == 0)=false:=by simp; omega
  by_cases h1:1024<c
  ·go_wp2_with fail
   go_ret2
   rw [HC.out,if_neg H0.out,if_pos h1]
   exact ⟨rfl,rfl⟩
  go_wp2_with fail
  go_ret2
  rw [HC.out,if_neg H0.out,if_neg h1]
  exact ⟨rfl,rfl⟩
theorem DI (l:List UInt8) (k:Nat) (ha:(l.take k).all ar=true) (hd:l.drop k=[]∨∃ b m,l.drop k=b::m∧ar b=false):l.takeWhile ar=l.take k∧l.dropWhile ar=l.drop k:=by
 have key:∀ a d:List UInt8,a.all ar=true→(d=[]∨∃ b m,d=b::m∧ar b=false)→(a++d).takeWhile ar=a∧(a++d).dropWhile ar=d:=by
  intro a
  induction a with
  | nil =>
   intro d _ hd
   rcases hd with rfl | ⟨b,m,rfl,hb⟩
   ·exact ⟨rfl,rfl⟩
   simp [hb]
  | cons x a ih =>
   intro d h hd
   rw [List.all_cons,Bool.and_eq_true] at h
   have:=ih d h.2 hd
   simp [h.1,this]
 have:=key (l.take k) (l.drop k) ha hd
 rwa [List.take_append_drop] at this
theorem zI (l:List UInt8) (k:Nat) (ha:(l.take k).all ar=true) (hd:l.drop k=[]∨∃ b m,l.drop k=b::m∧ar b=false) :
  aJ l=if l.take k=[]∨l.drop k=[]∨(l.drop k).head?=some 48∨(l.drop k).all ah=false then (0,0,4)
   else if 1024<cC (l.take k)∨1024<rowOf (l.drop k) then (0,0,3) else (((cC (l.take k):Nat):Int),((rowOf (l.drop k):Nat):Int),0):=by
 obtain ⟨h1,h2⟩:=DI l k ha hd
 simp only [aJ,h1,h2]
theorem drop_at (s:ByteArray) (k:Nat) (h:k<s.size):s.data.toList.drop k=s[k]::s.data.toList.drop (k+1):=by
 rw [List.drop_eq_getElem_cons (by simpa using h)]; rfl
theorem CG (s:ByteArray):s.data.toList.drop s.size=[]:=List.drop_eq_nil_of_le (by simp)
theorem Cx (s:ByteArray) (k:Nat) (h0:0<k) (h:k≤s.size):s.data.toList.take k≠[]:=by
 intro e
 have h1:=congrArg List.length e
 rw [List.length_take,List.length_nil] at h1
 have h2:s.data.toList.length=s.size:=by simp
 omega
theorem BJ (s:ByteArray) (a k:Nat) (h:a+k<s.size):(s.data.toList.drop a).take (k+1)=(s.data.toList.drop a).take k++[s[a+k]]:=by
 rw [List.take_succ_eq_append_getElem (by simp; omega),List.getElem_drop]; rfl
theorem D7 (s:ByteArray) (a k:Nat) (h:a+k<s.size) (hb:ah s[a+k]=false):(s.data.toList.drop a).all ah=false:=by
 rw [List.all_eq_false]
 refine ⟨s[a+k],?_,by simp [hb]⟩
 have : (s.data.toList.drop a)[k]'(by simp; omega) = s[a + k]:=by rw [List.getElem_drop]; rfl
 rw [← this]; exact List.getElem_mem _
theorem CX (s:ByteArray) (a k:Nat) (h:a+k<s.size):rowOf ((s.data.toList.drop a).take (k+1))=min (10 * rowOf ((s.data.toList.drop a).take k)+(s[a+k].toNat - 48)) 1025:=by
 rw [BJ s a k h,ol]
def Ek (s:ByteArray) (k:Nat) (e r i:Value):Prop :=
 ∃ j:Nat,k+j≤s.size∧e=.int .i64 0∧i=.int .i64 ((k+j:Nat):Int)∧r=.int .i64 (rowOf ((s.data.toList.drop k).take j):Nat)∧((s.data.toList.drop k).take j).all ah=true
theorem CW (s:ByteArray) (w:World) (hs:s.size≤4611686018427387904) :
  Calls prog 249 #[.string s] w fun e w'=>e=.returned (.tuple #[.agg #[.int .i64 (aJ s.data.toList).1,.int .i64 (aJ s.data.toList).2.1],.int .i64 (aJ s.data.toList).2.2])∧Below w.heap.size w w':=by
 generalize hR:aJ s.data.toList=R
 obtain ⟨R1,R2,R3⟩:=R
 have HR:=Lib.hid hR
 clear hR
 have fin:∀ (c r e:Int) (fr:Act),aJ s.data.toList=(c,r,e)→fr.tmps.getD 2 undef=.pointer (some ⟨w.heap.size,0,none⟩)→fr.tmps.getD 3 undef=.int .i64 e→fr.defers=[] →
   bodyPost prog Tryz.f249 (fun e w'=>e=.returned (.tuple #[.agg #[.int .i64 R1,.int .i64 R2],.int .i64 R3])∧Below w.heap.size w w') Exit.ret fr (w.alloc (.cells #[.int .i64 c,.int .i64 r] 46)):=by
  intro c r e fr hp h2 h3 hd
  rw [HR.out] at hp
  cases hp
  have h2':(fr.tmps[2]?).getD undef=.pointer (some ⟨w.heap.size,0,none⟩):=by simpa using h2
  have h3':(fr.tmps[3]?).getD undef=.int .i64 R3:=by simpa using h3
  exact bodyPost_ret (v:=.tuple #[.agg #[.int .i64 R1,.int .i64 R2],.int .i64 R3]) (by simp [results,results249,go_sem,h2',h3']) hd ⟨rfl,(Below.refl _ _).alloc (Nat.le_refl _) _⟩
 have FIN:=Lib.hid fin
 clear fin HR
 go_enter func249,ntmps249
 go_wp2_with fail
 go_loop [4] (fun i=>∃ k:Nat,k≤s.size∧i=.int .i64 k∧(s.data.toList.take k).all ar=true) (fun i=>s.size - (intOf i).toNat)
 case atStart=>exact ⟨0,Nat.zero_le _,rfl,rfl⟩
 case round =>
  obtain ⟨k,hk,rfl,hall⟩:=hrel
  have HA:=Lib.hid hall
  clear hall
  by_cases hlt:k<s.size
  ·by_cases hz:dz s[k]=0
   ·have hdr:=drop_at s k hlt
    have HZ:=Lib.hid hz
    have HAT:Hid (s.data.toList.drop k=[]∨∃ b m,s.data.toList.drop k=b::m∧ar b=false):=.inr ⟨_,_,hdr,by simp [ar,hz]⟩
    have HDR:=Lib.hid hdr
    have hzb:¬ (0:Int)<(dz s[k]:Int):=by omega
    clear hz hdr
    by_cases hk0:k=0
    ·subst hk0
     go_wp2_with (go_at_call 258; refine (zJ s[0] _).mono ?_; rintro e w' ⟨rfl,rfl⟩)
     exact FIN.out 0 0 4 _ (by rw [zI _ 0 HA.out HAT.out,if_pos (.inl rfl)]) rfl rfl rfl
    have hkb:((k:Int) == 0)=false:=by simp; omega
    have hkb2:((k:Int) == (s.size:Int))=false:=by simp; omega
    have HK:=Lib.hid hk0
    clear hk0
    by_cases h48:s[k]=48
    ·have h48b:((s[k].toNat:Int) == 48)=true:=by rw [h48]; rfl
     have H48:=Lib.hid h48
     clear h48
     go_wp2_with (go_at_call 258; refine (zJ s[k] _).mono ?_; rintro e w' ⟨rfl,rfl⟩)
     exact FIN.out 0 0 4 _ (by rw [zI _ k HA.out HAT.out,if_pos (.inr (.inr (.inl (by rw [HDR.out,H48.out]; rfl))))]) rfl rfl rfl
    have h48b:((s[k].toNat:Int) == 48)=false:=by
     rw [beq_eq_false_iff_ne]
     intro e
     exact h48 (by rw [← UInt8.toNat_inj]; have:(48:UInt8).toNat=48:=rfl; omega)
    have H48:=Lib.hid h48
    clear h48
    go_wp2_with (go_at_call 258; refine (zJ s[k] _).mono ?_; rintro e w' ⟨rfl,rfl⟩)
    go_loop [3,5,6] (fun e r i=>Ek s k e r i) (fun _ _ i=>s.size - (intOf i).toNat)
    case atStart=>exact ⟨0,by omega,rfl,rfl,rfl,rfl⟩
    case round =>
     obtain ⟨j,hj,rfl,rfl,rfl,hdig⟩:=hrel
     have HG:=Lib.hid hdig
     clear hdig
     have hro:=DG ((s.data.toList.drop k).take j)
     obtain ⟨i,hi⟩:∃ i,i=k+j:=⟨_,rfl⟩
     rw [← hi] at hj ⊢
     have HI:=Lib.hid hi
     clear hi
     by_cases hlt2:i<s.size
     ·have hb8:s[i].toNat<256:=s[i].toNat_lt
      by_cases hd:ah s[i]=true
      ·have hd':=hd
       simp only [ah,decide_eq_true_eq] at hd'
       obtain ⟨d1,d2⟩:=hd'
       have HD:=Lib.hid hd
       clear hd
       go_wp2_with fail
       go_round
       case rel =>
        have hi:=HI.out
        refine ⟨_,_,_,⟨j+1,by omega,rfl,by congr 1; omega,?_,?_⟩,rfl,rfl,rfl⟩
        ·subst hi
         rw [CX s k j hlt2]; congr 1; omega
        subst hi
        rw [BJ s k j hlt2,List.all_append,HG.out]
        simp [HD.out]
       case measure=>simp [intOf]; omega
      have hd':s[i].toNat<48∨57<s[i].toNat:=by
       simp only [ah,decide_eq_true_eq] at hd; omega
      have HBAD:Hid ((s.data.toList.drop k).all ah=false):=by
       have hi:=HI.out
       subst hi
       exact D7 s k j hlt2 (by simpa using hd)
      clear hd
      rcases hd' with hd' | hd'
      ·go_wp2_with fail
       exact FIN.out 0 0 4 _ (by rw [zI _ k HA.out HAT.out,if_pos (.inr (.inr (.inr HBAD.out)))]) rfl rfl rfl
      go_wp2_with fail
      exact FIN.out 0 0 4 _ (by rw [zI _ k HA.out HAT.out,if_pos (.inr (.inr (.inr HBAD.out)))]) rfl rfl rfl
     have hie:j=s.size - k:=by have:=HI.out; omega
     have hfull:(s.data.toList.drop k).take j=s.data.toList.drop k:=List.take_of_length_le (by simp; omega)
     have hG:=HG.out
     rw [hfull] at hro hG ⊢
     have HP:Hid (aJ s.data.toList=if 1024<cC (s.data.toList.take k)∨1024<rowOf (s.data.toList.drop k) then (0,0,3) else (((cC (s.data.toList.take k):Nat):Int),((rowOf (s.data.toList.drop k):Nat):Int),0)):=by
      show _=_
      rw [zI _ k HA.out HAT.out,if_neg]
      intro hh
      rcases hh with hh | hh | hh | hh
      ·exact Cx s k (by have:=HK.out; omega) hk hh
      ·rw [HDR.out] at hh; cases hh
      ·rw [HDR.out] at hh
       exact H48.out (by simpa using hh)
      rw [hG] at hh; cases hh
     have hie2:i=s.size:=by omega
     have HC:Hid (zS (s.extract 0 k).data.toList=if 1024<cC (s.data.toList.take k) then (0,3) else (((cC (s.data.toList.take k):Nat):Int),0)):=by
      show _=_
      rw [Lib.extract_data]
      simp only [List.drop_zero,Nat.sub_zero]
      unfold zS
      rw [if_neg]
      intro hh
      rcases hh with hh | hh
      ·exact Cx s k (by have:=HK.out; omega) hk hh
      rw [HA.out] at hh; cases hh
     have hco:=Bv (s.data.toList.take k)
     clear hie hfull hG HG HI
     generalize rowOf (s.data.toList.drop k)=r at hro HP ⊢
     generalize cC (s.data.toList.take k)=c at hco HP HC
     have hsz:(s.extract 0 k).size≤4611686018427387904:=by simp; omega
     have HSZ:=Lib.hid hsz
     clear hsz
     by_cases h1:1024<c
     ·go_wp2_with fail
      refine (Am _ _ HSZ.out).mono ?_
      rintro e w' ⟨rfl,rfl⟩
      rw [HC.out,if_pos h1]
      go_wp2_with fail
      exact FIN.out 0 0 3 _ (by rw [HP.out,if_pos (.inl h1)]) rfl rfl rfl
     by_cases h2:1024<r
     ·go_wp2_with fail
      refine (Am _ _ HSZ.out).mono ?_
      rintro e w' ⟨rfl,rfl⟩
      rw [HC.out,if_neg h1]
      go_wp2_with fail
      exact FIN.out 0 0 3 _ (by rw [HP.out,if_pos (.inr h2)]) rfl rfl rfl
     go_wp2_with fail
     refine (Am _ _ HSZ.out).mono ?_
     rintro e w' ⟨rfl,rfl⟩
     rw [HC.out,if_neg h1]
     go_wp2_with fail
     exact FIN.out c r 0 _ (by rw [HP.out,if_neg (by omega)]) rfl rfl rfl
   have HZ:=Lib.hid hz
   have hzb:(0:Int)<(dz s[k]:Int):=by omega
   have hsn:=j2 s k hlt
   have HS:=Lib.hid hsn
   clear hsn hz
   go_wp2_with (go_at_call 258; refine (zJ s[k] _).mono ?_; rintro e w' ⟨rfl,rfl⟩)
   go_round
   case rel =>
    refine ⟨k+1,by omega,by go_num,?_⟩
    rw [HS.out]; exact Bt _ _ HA.out ((A6 _).2 HZ.out)
   case measure=>simp [intOf]; omega
  have hke:k=s.size:=by omega
  subst hke
  have HD:=Lib.hid (CG s)
  by_cases hk0:s.size=0
  ·have hkb:((s.size:Int) == 0)=true:=by rw [beq_iff_eq]; omega
   have HK:=Lib.hid hk0
   clear hk0
   go_wp2_with fail
   exact FIN.out 0 0 4 _ (by rw [zI _ s.size HA.out (.inl HD.out),if_pos (.inr (.inl HD.out))]) rfl rfl rfl
  have hkb:((s.size:Int) == 0)=false:=by rw [beq_eq_false_iff_ne]; omega
  have HK:=Lib.hid hk0
  clear hk0
  go_wp2_with fail
  exact FIN.out 0 0 4 _ (by rw [zI _ s.size HA.out (.inl HD.out),if_pos (.inr (.inl HD.out))]) rfl rfl rfl
set_option maxRecDepth 1000000
set_option maxHeartbeats 4000000
section
open Go.RowKit Go.Proofs.Tryz
def c7 (b:UInt8):UInt8:=if aj b then 32 else 0
theorem xb (b:UInt8) (w:World) :
  Calls prog 174 #[.int .u8 b.toNat] w fun e w'=>e=.returned (.int .u8 (c7 b).toNat)∧w'=w:=by
 have hb8:b.toNat<256:=b.toNat_lt
 rcases (show (32≤b.toNat∧b.toNat≤126)∨b.toNat<32∨126<b.toNat from by omega) with ⟨g1,g2⟩ | g1 | g1
 ·have hu:=keep (show c7 b=32 by unfold c7 aj; rw [if_pos (by simp; omega)])
  go_enter func174,ntmps174
  go_wp2_with fail
  go_ret
  exact ⟨by rw [hu.out]; rfl,rfl⟩
 ·have hu:=keep (show c7 b=0 by unfold c7 aj; rw [if_neg (by simp; omega)])
  go_enter func174,ntmps174
  go_wp2_with fail
  go_ret
  exact ⟨by rw [hu.out]; rfl,rfl⟩
 have hu:=keep (show c7 b=0 by unfold c7 aj; rw [if_neg (by simp; omega)])
 go_enter func174,ntmps174
 go_wp2_with fail
 go_ret
 exact ⟨by rw [hu.out]; rfl,rfl⟩
theorem xc (x:Nat) (w:World) :
  Calls prog 175 #[.int .i32 (x:Int)] w fun e w'=>e=.returned (.bool (x == 0))∧w'=w:=by
 cases h:(x == 0)
 ·have hx:¬ (x:Int)=0:=by simp at h; omega
  clear h
  go_enter func175,ntmps175
  go_wp2_with fail
  go_ret
  exact ⟨by simp; omega,rfl⟩
 have hx:x=0:=by simpa using h
 subst hx
 clear h
 go_enter func175,ntmps175
 go_wp2_with fail
 go_ret
 exact ⟨rfl,rfl⟩
def fM (f:UInt8→UInt8) (l:List UInt8) (k:Nat):List UInt8:=(l.take k).map f++l.drop k
theorem f6 (f:UInt8→UInt8) (l:List UInt8) (k:Nat):(fM f l k).length=l.length:=by simp [fM]; omega
theorem sl (f : UInt8 → UInt8) (l : List UInt8) (k : Nat) (h : k < l.length) : (fM f l k)[k]'(by rw [f6]; exact h) = l[k]:=by
 unfold fM
 rw [List.getElem_append_right (by simp; omega)]
 simp [Nat.min_eq_left (Nat.le_of_lt h)]
theorem oE (f:UInt8→UInt8) (l:List UInt8) (k:Nat) (h:k<l.length):fM f l (k+1)=(fM f l k).set k (f l[k]):=by
 have hm:((l.take k).map f).length=k:=by simp; omega
 unfold fM
 rw [List.set_append_right _ _ (by omega),hm,Nat.sub_self,List.take_succ_eq_append_getElem h,List.map_append,List.append_assoc,List.drop_eq_getElem_cons h]
 rfl
theorem ni (s:ByteArray) (w:World) (hs:s.size≤4611686018427387904) :
  Calls prog 173 #[.string s,.func (.func 174) #[] #[]] w fun e w'=>∃ cap,e=.returned (.slice (some ⟨w.heap.size,0,none⟩) s.size cap)∧bd w' w.heap.size (s.data.toList.map c7)∧Below w.heap.size w w':=by
 have hcv:=run_bytes_of_string (P:=prog) w 9 42 5 s underlying9 underlying42 underlying5
 have hm:=bd.made w.drew s 5 (grownCap w s.size 0 5)
 have hbl:Below w.heap.size w (w.drew.alloc (.cells (bytesRow s (grownCap w s.size 0 5)) 5 ((bytesRow s (grownCap w s.size 0 5)).size,(bytesRow s (grownCap w s.size 0 5)).size+1))):=(Below.refl _ _).drew.alloc (Nat.le_refl _) _
 generalize (w.drew.alloc (.cells (bytesRow s (grownCap w s.size 0 5)) 5 ((bytesRow s (grownCap w s.size 0 5)).size,(bytesRow s (grownCap w s.size 0 5)).size+1)))=W0 at hcv hm hbl
 generalize grownCap w s.size 0 5=cap at hcv
 have HM:Hid (bd W0 w.heap.size s.data.toList):=hm
 have HB:=Lib.hid hbl
 clear hm hbl
 have hlen:s.data.toList.length=s.size:=by simp
 have HL:=Lib.hid hlen
 clear hlen
 go_enter func173,ntmps173
 go_wp2_with fail
 go_loopw [12] (fun i wr=>∃ k:Nat,k≤s.size∧i=.int .i64 k∧Hid (bd wr w.heap.size (fM c7 s.data.toList k))∧Hid (Below w.heap.size w wr)) (fun i _=>s.size - (intOf i).toNat)
 case atStart=>exact ⟨0,Nat.zero_le _,rfl,by simpa [fM] using HM,HB⟩
 case round =>
  obtain ⟨k,hk,rfl,H1,H2⟩:=hrel
  clear HM HB hcv
  by_cases hlt:k<s.size
  ·have hlt':k<s.data.toList.length:=by rw [HL.out]; exact hlt
   have hcell:=(H1.out k (by rw [f6]; exact hlt')).1
   have hfroz:=(H1.out k (by rw [f6]; exact hlt')).2
   rw [sl _ _ _ hlt'] at hcell
   obtain ⟨b,hb⟩:∃ b,b=s.data.toList[k]:=⟨_,rfl⟩
   rw [← hb] at hcell
   have HBy:=Lib.hid hb
   have HLT:=Lib.hid hlt'
   clear hb
   go_wp2_with fail
   refine (xb b _).mono ?_
   rintro e w5 ⟨rfl,rfl⟩
   go_wp2_with fail
   go_roundw
   case rel =>
    refine ⟨k+1,by omega,by go_num,?_,Lib.hid (H2.out.setCell (Nat.le_refl _) _)⟩
    show bd _ _ _
    rw [oE _ _ _ HLT.out,← HBy.out]
    exact H1.out.set_ k (by rw [f6]; exact HLT.out) _ _ rfl
   case measure=>simp [intOf]; omega
  have hke:fM c7 s.data.toList k=s.data.toList.map c7:=by
   have:k=s.data.toList.length:=by rw [HL.out]; omega
   unfold fM
   rw [List.take_of_length_le (by omega),List.drop_eq_nil_of_le (by omega),List.append_nil]
  rw [hke] at H1
  clear hke
  go_wp2_with fail
  go_ret
  exact ⟨_,rfl,H1.out,H2.out⟩
def p6 (l:List UInt8):Int:=match l.findIdx? (· == 0) with
 | some i=>(i:Int)
 | none=>-1
theorem oY (l:List UInt8) (k:Nat) (hb:∀ b∈l.take k,b≠0) (hk:k<l.length) (h0:l[k]=0):p6 l=(k:Int):=by
 have h:l.findIdx? (· == 0)=some k:=by
  rw [List.findIdx?_eq_some_iff_getElem]
  refine ⟨hk,by simpa using h0,fun j hj => ?_⟩
  have:=hb l[j] (by rw [List.mem_take_iff_getElem]; exact ⟨j,by omega,rfl⟩)
  simpa using this
 unfold p6
 rw [h]
theorem kE (l:List UInt8) (hb:∀ b∈l,b≠0):p6 l=-1:=by
 have h:l.findIdx? (· == 0)=none:=by
  rw [List.findIdx?_eq_none_iff]
  intro b hx
  simpa using hb b hx
 unfold p6
 rw [h]
theorem nL (t:ByteArray) (w:World) (ha:∀ b∈t.data.toList,b=0∨b=32) :
  Calls prog 205 #[.string t,.func (.func 175) #[] #[],.bool true] w fun e w'=>e=.returned (.int .i64 (p6 t.data.toList))∧∃ pos,w'=w.iter t pos:=by
 have HA:=keep ha
 have HL:=keep (show t.data.toList.length=t.size by simp)
 clear ha
 go_enter func205,ntmps205
 go_wp2_with fail
 go_loopw [] (fun w'=>∃ pos:Nat,w'=w.iter t pos∧pos≤t.size∧ao (∀ b∈t.data.toList.take pos,b≠0)) (fun w'=>t.size - w'.iterPos w.heap.size)
 case atStart=>exact ⟨0,rfl,Nat.zero_le _,keep (by simp)⟩
 case round =>
  obtain ⟨pos,rfl,hle,HP⟩:=hrel
  by_cases hp:pos<t.size
  ·have hmem : t[pos]'hp ∈ t.data.toList:=by
    have : t[pos]'hp = t.data.toList[pos]'(by rw [HL.out]; exact hp):=rfl
    rw [this]
    exact List.getElem_mem _
   have hlow : (t[pos]'hp).toNat < 128:=by
    rcases HA.out _ hmem with e | e <;> rw [e] <;> decide
   have hnx:∀ ty,(Instr.next (.pointer (some ⟨w.heap.size,0,none⟩)) true ty).run prog (w.iter t pos)=_:=fun ty=>run_next_ascii w t pos ty hp hlow
   have htk : t.data.toList.take (pos + 1) = t.data.toList.take pos ++ [t[pos]'hp]:=by
    rw [List.take_succ_eq_append_getElem (by rw [HL.out]; exact hp)]
    rfl
   have HTK:=keep htk
   clear htk hmem hlow
   go_wp2_with fail
   refine (xc _ _).mono ?_
   rintro e w5 ⟨rfl,rfl⟩
   generalize hz : ((t[pos]'hp).toNat == 0) = z
   cases z
   ·have hnz : t[pos]'hp ≠ 0:=by
     intro e
     rw [e] at hz
     simp at hz
    have HZ:=keep hnz
    clear hz hnz hnx
    go_wp2_with fail
    go_roundw
    case rel =>
     refine ⟨pos+1,rfl,by omega,keep fun b hb => ?_⟩
     rw [HTK.out] at hb
     rcases List.mem_append.1 hb with hb | hb
     ·exact HP.out b hb
     simp at hb; subst hb; exact HZ.out
    case measure=>simp; omega
   have hnz : t[pos]'hp = 0:=by
    rw [← UInt8.toNat_inj]
    simpa using hz
   have HZ:=keep hnz
   clear hz hnz hnx
   go_wp2_with fail
   go_ret
   exact ⟨by rw [oY _ pos HP.out (by rw [HL.out]; exact hp) HZ.out]; rfl,_,rfl⟩
  have hnx:∀ ty,(Instr.next (.pointer (some ⟨w.heap.size,0,none⟩)) true ty).run prog (w.iter t pos)=_:=fun ty=>run_next_end w t pos ty hp
  go_wp2_with fail
  go_ret
  refine ⟨by rw [kE _ fun b hb=>HP.out b (by rw [List.take_of_length_le (by rw [HL.out]; omega)]; exact hb)]; rfl,_,rfl⟩
theorem nM (w:World) (t:ByteArray) (pos:Nat):Below w.heap.size w (w.iter t pos):=(Below.refl _ _).alloc (Nat.le_refl _) _
theorem rF (l:List UInt8):decide (p6 (l.map c7)<0)=l.all aj:=by
 cases h:l.all aj
 ·have h2 : ∃ k,∃ hk : k < l.length,aj l[k] = false ∧ ∀ j,∀ hj : j < k,aj (l[j]'(by omega)) = true:=by
   rw [List.all_eq_false] at h
   obtain ⟨x,hx,hp⟩:=h
   have hf:(l.findIdx? fun b=>!aj b).isSome:=by
    rw [List.findIdx?_isSome,List.any_eq_true]
    exact ⟨x,hx,by simpa using hp⟩
   obtain ⟨k,hk⟩:=Option.isSome_iff_exists.1 hf
   rw [List.findIdx?_eq_some_iff_getElem] at hk
   obtain ⟨hk,h1,h2⟩:=hk
   exact ⟨k,hk,by simpa using h1,fun j hj=>by simpa using h2 j hj⟩
  obtain ⟨k,hk,h1,h3⟩:=h2
  rw [oY _ k ?_ (by simpa using hk) (by simp [c7,h1])]
  ·simp
  intro b hb
  rw [← List.map_take] at hb
  obtain ⟨c,hc,rfl⟩:=List.mem_map.1 hb
  rw [List.mem_take_iff_getElem] at hc
  obtain ⟨j,hj,rfl⟩:=hc
  unfold c7
  rw [if_pos (h3 j (by omega))]
  decide
 rw [kE]
 ·rfl
 intro b hb
 obtain ⟨c,hc,rfl⟩:=List.mem_map.1 hb
 unfold c7
 rw [if_pos (List.all_eq_true.1 h c hc)]
 decide
theorem dq (s:ByteArray) (w:World) (hs:s.size≤4611686018427387904) :
  Calls prog 114 #[.string s] w fun e w'=>e=.returned (.bool (s.data.toList.all aj))∧Below w.heap.size w w':=by
 rw [← rF]
 have HX:=keep (show ∀ b∈(⟨(s.data.toList.map c7).toArray⟩:ByteArray).data.toList,b=0∨b=32 from fun b hb=>by
  obtain ⟨c,_,rfl⟩:=List.mem_map.1 (show b∈s.data.toList.map c7 from hb)
  unfold c7
  split <;> simp)
 go_enter func114,ntmps114
 go_wp2_with fail
 refine (ni s _ hs).mono ?_
 rintro e w1 ⟨cap,rfl,hb8,hb⟩
 have HB:=Lib.hid hb
 have hcv2:=hb8.string (P:=prog) 42 9 5 underlying42 underlying5 underlying9 cap
 rw [List.length_map,show s.data.toList.length=s.size from by simp] at hcv2
 clear hb8 hb
 go_wp2_with fail
 go_in
 go_wp2_with fail
 refine (nL _ _ HX.out).mono ?_
 rintro e w2 ⟨rfl,pos,hw2⟩
 have HB2:=Lib.hid (al HB.out (hw2▸nM _ _ _))
 clear hw2 hcv2
 go_wp2
 go_ret
 exact ⟨rfl,HB2.out⟩
end
section
open Go.RowKit Go.Proofs.Tryz
theorem iH (l:List UInt8) (b:UInt8):ax (l++[b])=ax l++[.int .u8 b.toNat]:=by simp [ax]
theorem oZ:(prog.info? 5).map (fun i=>(i.zero,i.size,i.bytes))=some (some (.int .u8 0),1,1):=by kernel_rfl
theorem dN {w:World} {base:Nat} {v:Value} {l:List UInt8} (h:w.ownsRow base 5 1 v l.length (ax l)) :
  (convert 42 9 v).run prog w=.ok (.string ⟨l.toArray⟩) w:=by
 have hc:=@World.ownsRow.cells _ _ _ _ _ _ _ h
 rcases h.2 with ⟨rfl,hl⟩ | ⟨g,cap,cur,rfl,_,_,hn,hm,_⟩
 ·obtain rfl:l=[]:=List.length_eq_zero_iff.1 hl
  exact Lib.run_convert_nil_bytes w 42 9 5 0 underlying42 underlying5 underlying9
 refine run_convert_bytes_back w 42 9 5 ⟨g,0,none⟩ cap l underlying42 underlying5 underlying9 fun j hj => ?_
 exact hc rfl j _ (by simp [ax]; exact ⟨_,List.getElem?_eq_getElem hj,rfl⟩)
theorem bp {w:World} {base:Nat} {v:Value} {e:TypeId} {s n:Nat} {l:List Value} (h:w.ownsRow base e s v n l):∃ a c,v=.slice a n c:=by
 rcases h.2 with ⟨rfl,hl⟩ | ⟨g,cap,cur,rfl,_,_,hn,hm,_⟩
 ·exact ⟨none,0,by rw [hl]⟩
 exact ⟨_,_,rfl⟩
theorem sk {L:List UInt8} {k n:Nat} {t:List UInt8} (hn:L.length=n) (hk:k+1<n) (h:aP (L.drop k)=some (t,n - k)) :
  (L[k]'(by omega) ≠ 34 ∧ ∃ t2,t = L[k]'(by omega) :: t2 ∧ aP (L.drop (k + 1)) = some (t2,n - (k + 1))) ∨ (L[k]'(by omega) = 34 ∧ k + 2 < n ∧ L[k + 1]'(by omega) = 34 ∧ ∃ t2,t = 34 :: t2 ∧ aP (L.drop (k + 2)) = some (t2,n - (k + 2))):=by
 have h1 : L.drop k = L[k]'(by omega) :: L[k + 1]'(by omega) :: L.drop (k + 2):=by
  rw [List.drop_eq_getElem_cons (by omega),List.drop_eq_getElem_cons (by omega)]
 have h2 : L.drop (k + 1) = L[k + 1]'(by omega) :: L.drop (k + 2):=List.drop_eq_getElem_cons (by omega)
 rw [h1,bR] at h
 split at h
 ·rename_i h34
  split at h
  ·rename_i h34'
   cases hu:aP (L.drop (k+2)) with
   | none=>rw [hu] at h; simp at h
   | some x =>
    rw [hu] at h
    simp only [Option.map_some,Option.some.injEq,Prod.mk.injEq] at h
    obtain ⟨rfl,h9⟩:=h
    have h8:k+2<n:=by
     refine Nat.lt_of_not_le fun hge => ?_
     rw [List.drop_eq_nil_of_le (by omega)] at hu
     simp [aP] at hu
    refine .inr ⟨h34,h8,h34',x.1,rfl,?_⟩
    rw [show n - (k+2)=x.2 by omega]
  simp only [Option.some.injEq,Prod.mk.injEq] at h
  omega
 rename_i h34
 rw [← h2] at h
 cases hu:aP (L.drop (k+1)) with
 | none=>rw [hu] at h; simp at h
 | some x =>
  rw [hu] at h
  simp only [Option.map_some,Option.some.injEq,Prod.mk.injEq] at h
  obtain ⟨rfl,h9⟩:=h
  exact .inl ⟨h34,x.1,rfl,by rw [show n - (k+1)=x.2 by omega]⟩
theorem sj {L:List UInt8} {n:Nat} {t:List UInt8} (hn:L.length=n) (h1:1≤n) (h:aP (L.drop (n - 1))=some (t,1)):t=[]:=by
 have h2 : L.drop (n - 1) = [L[n - 1]'(by omega)]:=by
  rw [List.drop_eq_getElem_cons (by omega),List.drop_eq_nil_of_le (by omega)]
 rw [h2,di] at h
 split at h <;> simp at h
 exact h
def Unq (L t:List UInt8) (n k:Nat) (l:List UInt8):Prop:=∃ t2,aP (L.drop k)=some (t2,n - k)∧t=l++t2
theorem Unq.step {L t:List UInt8} {n k:Nat} {l:List UInt8} (hn:L.length=n) (hk:k+1<n) (h:Unq L t n k l) :
  (L[k]'(by omega) ≠ 34 ∧ Unq L t n (k + 1) (l ++ [L[k]'(by omega)])) ∨ (L[k]'(by omega) = 34 ∧ k + 2 < n ∧ L[k + 1]'(by omega) = 34 ∧ Unq L t n (k + 2) (l ++ [34])):=by
 obtain ⟨t2,h1,h2⟩:=h
 rcases sk hn hk h1 with ⟨h3,t3,rfl,h4⟩ | ⟨h3,h5,h6,t3,rfl,h4⟩
 ·exact .inl ⟨h3,t3,h4,by rw [h2]; simp⟩
 exact .inr ⟨h3,h5,h6,t3,h4,by rw [h2]; simp⟩
theorem gh (s:ByteArray) (x t:List UInt8) (w:World) (hs:s.size≤1000) (hx:s.data.toList=34::x) (ht:aP x=some (t,x.length)) (hp:s.data.toList.all aj=true) (h256:t.length≤256) :
  Calls prog 157 #[.string s] w fun e w'=>e=.returned (.tuple #[.string ⟨t.toArray⟩,.int .i64 0])∧Below w.heap.size w w':=by
 obtain ⟨i0,hi,hz0,hz1,hz2⟩:=info_parts oZ
 have hsl:s.data.toList.length=s.size:=by rw [Array.length_toList]; rfl
 have hx1:1≤x.length:=by
  cases x with
  | nil=>simp [aP] at ht
  | cons=>simp
 have hsz:s.size=x.length+1:=by rw [← hsl,hx]; rfl
 have h0:0<s.size:=by omega
 have h2:2≤s.size:=by omega
 have hU:Unq s.data.toList t s.size 1 []:=⟨t,by rw [hx,hsz]; exact ht,rfl⟩
 have hc0 : s[0]'h0 = 34:=by
  show s.data.toList[0]'(by rw [hsl]; exact h0) = 34
  simp [hx]
 obtain ⟨z,hz⟩:=ex (s.size - 1)
 have hzs:z<s.size:=by omega
 have hzz:(s.size:Int) - 1=(z:Int):=by omega
 have hcz : s[z]'hzs = 34:=by
  have h9:=mZ
  clear h9
  have key:∀ (m:Nat) (l t:List UInt8),l.length≤m→aP l=some (t,l.length)→∀ h:l≠[],l.getLast h=34:=by
   intro m
   induction m with
   | zero=>intro l t hl _ h; exact absurd (List.length_eq_zero_iff.1 (by omega)) h
   | succ m ih =>
    intro l t hl hu h
    match l,hl,hu,h with
    | [b],_,hu,_ =>
     rw [di] at hu
     split at hu
     ·rename_i hb; exact hb
     simp at hu
    | b::c::r,hl,hu,_ =>
     rw [bR] at hu
     split at hu
     ·split at hu
      ·rename_i hc
       cases h9:aP r with
       | none=>rw [h9] at hu; simp at hu
       | some y =>
        rw [h9] at hu
        simp only [Option.map_some,Option.some.injEq,Prod.mk.injEq,List.length_cons] at hu
        have hr:r≠[]:=by rintro rfl; simp [aP] at h9
        rw [List.getLast_cons (by simp),List.getLast_cons hr]
        exact ih r y.1 (by simp at hl; omega) (by rw [h9,show r.length=y.2 by omega]) hr
      simp at hu
     cases h9:aP (c::r) with
     | none=>rw [h9] at hu; simp at hu
     | some y =>
      rw [h9] at hu
      simp only [Option.map_some,Option.some.injEq,Prod.mk.injEq,List.length_cons] at hu
      rw [List.getLast_cons (by simp)]
      exact ih (c::r) y.1 (by simp at hl ⊢; omega) (by rw [h9,List.length_cons,show r.length+1=y.2 by omega]) (by simp)
  have hne:x≠[]:=by intro e; rw [e] at hx1; simp at hx1
  have h9:=key _ x t (Nat.le_refl _) ht hne
  show s.data.toList[z]'(by rw [hsl]; exact hzs) = 34
  rw [List.getLast_eq_getElem] at h9
  rw [← h9]
  simp only [hx]
  rw [List.getElem_cons]
  rw [dif_neg (by omega)]
  congr 1
  omega
 have hi0 : ((s[0]'h0).toNat : Int) = 34:=by rw [hc0]; rfl
 have hiz : ((s[z]'hzs).toNat : Int) = 34:=by rw [hcz]; rfl
 have hb0 : (((s[0]'h0).toNat : Int) != 34) = false:=by rw [hi0]; rfl
 have hbz : (((s[z]'hzs).toNat : Int) != 34) = false:=by rw [hiz]; rfl
 have HU:=keep hU
 have HSL:=keep hsl
 have HP:=keep hp
 have HZ:=keep hz
 have HT:=keep h256
 clear hx ht hp hU hsl hx1 hsz hc0 hcz hi0 hiz hz h256
 go_enter func157,ntmps157
 go_wp2_with fail
 go_step3
 go_wp2_with fail
 refine (dq s _ (by omega)).mono ?_
 rintro e w1 ⟨rfl,hb⟩
 rw [HP.out]
 have H1:=Lib.hid ((Ok.start w).below hb)
 clear hb
 go_wp2_with fail
 go_step3
 clear hb0 hbz
 go_wp2_with fail
 go_loopw [5,6] (fun ov iv wr=>∃ (k:Nat) (l:List UInt8),1≤k∧k≤z∧iv=.int .i64 (k:Int)∧l.length≤k∧ao (Unq s.data.toList t s.size k l)∧Hid (an w [] 5 1 ov l.length (ax l) wr)) (fun _ iv _=>s.size - (intOf iv).toNat)
 case atStart=>exact ⟨1,[],Nat.le_refl _,by have:=HZ.out; omega,rfl,Nat.zero_le _,HU,Lib.hid (an.start H1.out _ _)⟩
 case round =>
  clear HU H1
  obtain ⟨k,l,hk1,hk,rfl,hll,HU,H⟩:=hrel
  by_cases hlt:(k:Int)=z
  ·have hlt2:k=z:=by omega
   subst hlt2
   have ht:t=l:=by
    obtain ⟨t2,h3,h4⟩:=HU.out
    rw [show s.size - k=1 by omega] at h3
    rw [h4,sj (L:=s.data.toList) (n:=s.size) (t:=t2) HSL.out (by omega) (by rw [HZ.out]; exact h3),List.append_nil]
   subst ht
   clear hlt
   have hcv:=dN H.out.own
   obtain ⟨a,c,hv⟩:=bp H.out.own
   subst hv
   have hl1:=HT.out
   clear HU
   go_wp2_with fail
   rw [Exit.noGoto_ret]
   exact bodyPost_ret (v:=.tuple #[.string ⟨t.toArray⟩,.int .i64 0]) (by simp [results,results157,go_sem]) rfl ⟨rfl,H.out.ok.bel⟩
  have hkn:k+1<s.size:=by omega
  have hks:k<s.size:=by omega
  rcases Unq.step HSL.out hkn HU.out with ⟨h3,h4⟩ | ⟨h3,h5,h6,h4⟩
  ·have h3' : s[k]'hks ≠ 34:=h3
   have hi3 : ¬ ((s[k]'hks).toNat : Int) = 34:=by
    intro e
    exact h3' (by rw [← UInt8.toNat_inj]; show _=34; omega)
   have HU2:=keep (show Unq s.data.toList t s.size (k + 1) (l ++ [s[k]'hks]) from h4)
   obtain ⟨b,hb⟩:=ex (s[k]'hks)
   rw [hb] at HU2 hi3
   have hbi : ((s[k]'hks).toNat : Int) = (b.toNat : Int):=by rw [hb]
   clear h3 h3' h4 hb
   go_wp2_with (at_builtin; refine wpList_append_lies _ rfl _ _ _ rfl w.heap.size 5 i0 _ 1 1 underlying42 hi hz0 hz1 hz2 rfl (by omega) _ _ _ rfl (H.out.own.alloc _) ⟨wr.heap.size,0,none⟩ 1 1 [.int .u8 b.toNat] rfl rfl (World.news_of_block (cs:=#[.int .u8 b.toNat]) (t:=5) (fr:=(0,0)) (heap_alloc_new _ _)) (by intro u hu; simp at hu; rcases hu with rfl; rfl) (by omega) (by unfold maxLen; omega) (by omega) (by have:=H.out.ok.bel.size; simp; omega) _ rfl ?_; intro g cap w3 hown3 hgrow3 hat3 hlt3)
   go_roundw
   case rel=>exact ⟨k+1,l++[b],by omega,by omega,by go_num,by simp; omega,HU2,by rw [iH,List.length_append]; exact (H.out.alloc_obj _).appended hown3 hgrow3 hat3⟩
   case measure=>simp [intOf]; omega
  have h3' : s[k]'hks = 34:=h3
  have h6' : s[k + 1]'hkn = 34:=h6
  have hi3 : ((s[k]'hks).toNat : Int) = 34:=by rw [h3']; rfl
  have hi6 : ((s[k + 1]'hkn).toNat : Int) = 34:=by rw [h6']; rfl
  have hb3 : (((s[k]'hks).toNat : Int) != 34) = false:=by rw [hi3]; rfl
  have hb6 : (((s[k + 1]'hkn).toNat : Int) != 34) = false:=by rw [hi6]; rfl
  have HU2:=keep h4
  have hne:¬ (k:Int)+1=z:=by omega
  have ht1:((k:Int)+1).toNat=k+1:=by omega
  clear h3 h3' h4 h6 h6' hi3 hi6
  go_wp2_with (at_builtin; refine wpList_append_lies _ rfl _ _ _ rfl w.heap.size 5 i0 _ 1 1 underlying42 hi hz0 hz1 hz2 rfl (by omega) _ _ _ rfl (H.out.own.alloc _) ⟨wr.heap.size,0,none⟩ 1 1 [.int .u8 34] rfl rfl (World.news_of_block (cs:=#[.int .u8 34]) (t:=5) (fr:=(0,0)) (heap_alloc_new _ _)) (by intro u hu; simp at hu; rcases hu with rfl; rfl) (by omega) (by unfold maxLen; omega) (by omega) (by have:=H.out.ok.bel.size; simp; omega) _ rfl ?_; intro g cap w3 hown3 hgrow3 hat3 hlt3)
  go_roundw
  case rel=>exact ⟨k+2,l++[34],by omega,by omega,by go_num,by simp; omega,HU2,by rw [iH,List.length_append]; exact (H.out.alloc_obj _).appended hown3 hgrow3 hat3⟩
  case measure=>simp [intOf]; omega
end
