/- The contract of the lexer's word. The contract of lex.Tokens. -/
import Derived.Test.YtdplcdhpnmcdjaaGreatDoorKLexK
import Derived.Test.YtdplcdhpnmcdjaaGreatDoorKTg
import Derived.Test.YtdplcdhpnmcdjaaGreatDoorKAddP6
import Derived.Deep.DeepCutAuto
import Derived.Deep.LoopGhost
import Derived.WalkMore
namespace Go.Proofs.YtdplcdhpnmcdjaaGreatDoor
set_option maxRecDepth 100000
set_option maxHeartbeats 8000000
section
open Go.RowKit Go.Proofs.Tryz
theorem hI (c r:Int) (w:World) :
  Calls prog 162 #[.agg #[.int .i64 c,.int .i64 r]] w fun e w'=>e=.returned (.agg #[.int .i64 c,.int .i64 r,.int .i64 c,.int .i64 r])∧Below w.heap.size w w':=by
 go_enter func162,ntmps162
 go_wp2
 refine bodyPost_ret (v:=.agg #[.int .i64 c,.int .i64 r,.int .i64 c,.int .i64 r]) (by simp [results,results162,go_sem]) rfl ⟨rfl,?_⟩
 first
  | exact ((Below.refl _ _).alloc (Nat.le_refl _) _)
  | exact (((Below.refl _ _).alloc (Nat.le_refl _) _).alloc (by simp) _)
  | exact (sC (sC (sC (sC ((((Below.refl _ _).alloc (Nat.le_refl _) _).alloc (by simp) _)) _) _) _) _)
def bX (l:List UInt8) (i:Nat):Option (Tk×Nat):=if l.head?.any ar then bU l i else none
theorem ei (s:ByteArray) (q:Nat) (b:UInt8) (hb:b≠0):(s.data.toList.drop q).head?=some b↔eh s q=b:=by
 unfold eh
 rw [List.head?_drop]
 cases s.data.toList[q]? with
 | none=>simpa using fun e=>hb e.symm
 | some c=>simp
theorem lY (s:ByteArray) (q:Nat):(s.data.toList.drop q).head?.any ar=ar (eh s q):=by
 unfold eh
 rw [List.head?_drop]
 cases s.data.toList[q]? with
 | none=>rfl
 | some c=>rfl
theorem pK (s:ByteArray) (q:Nat) (b:UInt8) (hb:b≠0) (h:eh s q=b):s.data.toList.drop q=b::s.data.toList.drop (q+1):=by
 have h2:=(ei s q b hb).2 h
 rw [List.head?_drop] at h2
 obtain ⟨hq,h3⟩:=List.getElem?_eq_some_iff.1 h2
 rw [List.drop_eq_getElem_cons hq,h3]
section
variable {l u d:List UInt8} {i n:Nat} {a:Int×Int×Int}
structure Wd (l u d:List UInt8) (n:Nat) (a:Int×Int×Int):Prop where
 hd:l.head?.any ar=true
 hu:(l.takeWhile au).map upB=u
 hdd:l.dropWhile au=d
 hn:(l.takeWhile au).length=n
 ha:aJ u=a
theorem Wd.name (h:Wd l u d n a) (h1:d.head?=some 40):bX l i=some (⟨7,0,u,R4.zero,i⟩,n):=by
 unfold bX bU
 rw [if_pos h.hd]
 simp only [h.hu,h.hdd,h.hn]
 rw [if_pos h1]
theorem Wd.yes (h:Wd l u d n a) (h1:d.head?≠some 40) (h2:u=c6):bX l i=some (⟨3,1,[],R4.zero,i⟩,n):=by
 unfold bX bU
 rw [if_pos h.hd]
 simp only [h.hu,h.hdd,h.hn]
 rw [if_neg h1,if_pos h2]
theorem Wd.no (h:Wd l u d n a) (h1:d.head?≠some 40) (h2:u≠c6) (h3:u=cf):bX l i=some (⟨3,0,[],R4.zero,i⟩,n):=by
 unfold bX bU
 rw [if_pos h.hd]
 simp only [h.hu,h.hdd,h.hn]
 rw [if_neg h1,if_neg h2,if_pos h3]
theorem Wd.bad (h:Wd l u d n a) (h1:d.head?≠some 40) (h2:u≠c6) (h3:u≠cf) (h4:a.2.2≠0):bX l i=none:=by
 unfold bX bU
 rw [if_pos h.hd]
 simp only [h.hu,h.hdd,h.hn,h.ha]
 rw [if_neg h1,if_neg h2,if_neg h3,if_pos h4]
theorem Wd.one (h:Wd l u d n a) (h1:d.head?≠some 40) (h2:u≠c6) (h3:u≠cf) (h4:a.2.2=0) (h5:cH d=none):bX l i=some (⟨5,0,[],⟨a.1,a.2.1,a.1,a.2.1⟩,i⟩,n):=by
 unfold bX bU
 rw [if_pos h.hd]
 simp only [h.hu,h.hdd,h.hn,h.ha,h5]
 rw [if_neg h1,if_neg h2,if_neg h3,if_neg (by rw [h4]; simp)]
 unfold fD
 simp
theorem Wd.two (h:Wd l u d n a) {c r:Int} {m:Nat} (h1:d.head?≠some 40) (h2:u≠c6) (h3:u≠cf) (h4:a.2.2=0) (h5:cH d=some (c,r,m)) :
  bX l i=some (⟨if a.1=c∧a.2.1=r then 5 else 6,0,[],fD (a.1,a.2.1) (c,r),i⟩,n+1+m):=by
 unfold bX bU
 rw [if_pos h.hd]
 simp only [h.hu,h.hdd,h.hn,h.ha,h5]
 rw [if_neg h1,if_neg h2,if_neg h3,if_neg (by rw [h4]; simp)]
end
theorem sG {l:List UInt8} {i:Nat} (h:l.head?.any ar=false):bX l i=none:=by
 unfold bX
 rw [if_neg (by rw [h]; decide)]
theorem gL {b:UInt8} {k:Nat} (h:b≠UInt8.ofNat k) (hk:k<256:=by decide):¬ ((b.toNat:Int)=(k:Int)):=by
 intro e
 apply h
 rw [← UInt8.toNat_inj,UInt8.toNat_ofNat']
 omega
theorem sc {u x:List UInt8} (h:u≠x):(u == x)=false:=by simpa using h
theorem mL (s:ByteArray) (rb i:Nat) (w:World) (hs:s.size≤300) (hi:i<s.size) (hr:w.cell? ⟨rb,0,none⟩=some (.string s)) :
  Calls prog 105 #[.pointer (some ⟨rb,0,none⟩),.int .i64 (i:Int)] w fun e w'=>e=.returned (fF (bX (aK s i) i))∧Below w.heap.size w w':=by
 have hsl:s.data.toList.length=s.size:=by rw [Array.length_toList]; rfl
 have hhd : (aK s i).head?.any ar = ar (s[i]'hi):=by rw [eR hi]; rfl
 have HHD:=keep hhd
 have HSL:=keep hsl
 clear hhd hsl
 have hh:=ey hr
 have H0:=Lib.hid hh
 clear hh
 cases hL : ar (s[i]'hi)
 ·have HL:=keep hL
  have HNO:=keep (sG (i:=i) (HHD.out.trans hL))
  clear hL
  have F1:=H0.out.sees
  simp only [sees,ae,ag,Nat.add_zero] at F1
  obtain ⟨⟨z0,c00,-⟩,-⟩:=F1
  go_enter func105,ntmps105
  go_wp2_with fail
  have y2:=z0
  clear z0 c00
  have H3:=Lib.hid (H0.out.var w.heap.size 97 [.int .u8 0,.int .i64 0,.string ⟨#[]⟩,.int .i64 0,.int .i64 0,.int .i64 0,.int .i64 0,.int .i64 0] rfl)
  clear H0
  generalize (w.alloc (.cells #[.int .u8 0,.int .i64 0,.string ⟨#[]⟩,.int .i64 0,.int .i64 0,.int .i64 0,.int .i64 0,.int .i64 0] 97))=W4 at H3 ⊢
  have F5:=H3.out.sees
  simp only [sees,af,ae,ag,Nat.add_zero,aa,Nat.reduceAdd] at F5
  obtain ⟨⟨⟨z0,fz0⟩,c00,c01,c02,c03,c04,c05,c06,c07,-⟩,⟨z1,c10,-⟩,-⟩:=F5
  refine (eM _ _).mono ?_
  rintro e w6 ⟨rfl,hw7⟩
  obtain rfl:W4=w6:=hw7.symm
  rw [HL.out]
  go_wp2_with fail
  exact e8_ [.int .i64 0] H3 (fun W h=>by simp [results,results105,go_sem,h]) (fun h=>⟨by rw [HNO.out]; rfl,h⟩)
 obtain ⟨u,hu⟩:=ex ((bC s i).map upB)
 obtain ⟨d,hd⟩:=ex ((aK s i).dropWhile au)
 obtain ⟨n,hn⟩:=ex ((bC s i).length)
 obtain ⟨a,ha⟩:=ex (aJ u)
 have hwd:Wd (aK s i) u d n a:=⟨HHD.out.trans hL,hu,hd,hn,ha⟩
 have hun:u.length=n:=by rw [← hu,List.length_map,hn]
 have hrl:(aK s i).length=s.size - i:=by unfold aK; rw [List.length_drop,HSL.out]
 have hle:i+n≤s.size:=by
  have h:=(List.takeWhile_prefix (l:=aK s i) au).length_le
  have h2:(bC s i).length=((aK s i).takeWhile au).length:=rfl
  omega
 obtain ⟨q,hq⟩:=ex (i+n)
 have hdq:s.data.toList.drop q=d:=by
  have h9:s.data.toList.drop q=(aK s i).drop n:=by unfold aK; rw [List.drop_drop,hq]
  rw [h9,← hd,← hn]
  have h8:=List.takeWhile_append_dropWhile (p:=au) (l:=aK s i)
  conv=>lhs; arg 2; rw [← h8]
  exact List.drop_left
 have hqs:q≤s.size:=by omega
 have hqq:(i:Int)+(n:Int)=(q:Int):=by omega
 have hus:(⟨u.toArray⟩:ByteArray).size=n:=hun
 have HWD:=keep hwd
 have HU:=keep hu
 have HUS:=keep hus
 have HL:=keep hL
 have HDQ:=keep hdq
 have HQQ:=keep hqq
 obtain ⟨bq,hbq⟩:=ex (eh s q)
 have HBQ:=keep hbq
 clear hL hu hd hn ha hwd hun hrl hle hq hdq hqq hus hbq
 obtain ⟨A1,A2,A3⟩:=a
 obtain ⟨q1,hq1⟩:=ex (q+1)
 obtain ⟨b1,hb1⟩:=ex (eh s q1)
 have HQE:=keep hq1
 clear hq1
 have HB1:=keep hb1
 clear hb1
 have F1:=H0.out.sees
 simp only [sees,ae,ag,Nat.add_zero] at F1
 obtain ⟨⟨z0,c00,-⟩,-⟩:=F1
 go_enter func105,ntmps105
 go_wp2_with fail
 have y2:=z0
 clear z0 c00
 have H3:=Lib.hid (H0.out.var w.heap.size 97 [.int .u8 0,.int .i64 0,.string ⟨#[]⟩,.int .i64 0,.int .i64 0,.int .i64 0,.int .i64 0,.int .i64 0] rfl)
 clear H0
 generalize (w.alloc (.cells #[.int .u8 0,.int .i64 0,.string ⟨#[]⟩,.int .i64 0,.int .i64 0,.int .i64 0,.int .i64 0,.int .i64 0] 97))=W4 at H3 ⊢
 have F5:=H3.out.sees
 simp only [sees,af,ae,ag,Nat.add_zero,aa,Nat.reduceAdd] at F5
 obtain ⟨⟨⟨z0,fz0⟩,c00,c01,c02,c03,c04,c05,c06,c07,-⟩,⟨z1,c10,-⟩,-⟩:=F5
 refine (eM _ _).mono ?_
 rintro e w6 ⟨rfl,hw7⟩
 obtain rfl:W4=w6:=hw7.symm
 rw [HL.out]
 go_wp2_with fail
 refine cMg (hH s rb i _ (by omega) (by omega) (by first | assumption | simpa using c10)) (fun _=>H3.out.below) fun w8 H10=>?_
 rw [HU.out]
 clear z0 fz0 c00 c01 c02 c03 c04 c05 c06 c07 z1 c10 H3
 have F11:=H10.out.sees
 simp only [sees,af,ae,ag,Nat.add_zero,aa,Nat.reduceAdd] at F11
 obtain ⟨⟨⟨z0,fz0⟩,c00,c01,c02,c03,c04,c05,c06,c07,-⟩,⟨z1,c10,-⟩,-⟩:=F11
 have hus:=HUS.out
 have hqq:=HQQ.out
 go_wp2_with fail
 refine (d3 s rb q _ (by omega) (by omega) (by assumption)).mono ?_
 rintro e w12 ⟨rfl,hw13⟩
 obtain rfl:w8=w12:=hw13.symm
 rw [HBQ.out]
 by_cases h40:bq=40
 ·have HRES:=keep (HWD.out.name (i:=i) (by rw [← HDQ.out,ei s q 40 (by decide),HBQ.out]; exact h40))
  subst h40
  go_wp2_with fail
  exact e8_ [.int .i64 (n:Int)] H10 (fun W h=>by simp [results,results105,go_sem,h]) (fun h=>⟨by rw [HRES.out]; rfl,h⟩)
 have HN40:=keep (show d.head?≠some 40 by rw [← HDQ.out,ne_eq,ei s q 40 (by decide),HBQ.out]; exact h40)
 have hb40:((bq.toNat:Int) == 40)=false:=by simpa using gL (k:=40) h40
 clear h40
 by_cases hT:u=c6
 ·have HRES:=keep (HWD.out.yes (i:=i) HN40.out hT)
  have hTb:(u == [84,82,85,69])=true:=by rw [hT]; rfl
  clear hT
  go_wp2_with fail
  exact e8_ [.int .i64 (n:Int)] H10 (fun W h=>by simp [results,results105,go_sem,h]) (fun h=>⟨by rw [HRES.out]; rfl,h⟩)
 have HNT:=keep hT
 have hTb:(u == [84,82,85,69])=false:=sc hT
 clear hT
 by_cases hF:u=cf
 ·have HRES:=keep (HWD.out.no (i:=i) HN40.out HNT.out hF)
  have hFb:(u == [70,65,76,83,69])=true:=by rw [hF]; rfl
  clear hF
  go_wp2_with fail
  exact e8_ [.int .i64 (n:Int)] H10 (fun W h=>by simp [results,results105,go_sem,h]) (fun h=>⟨by rw [HRES.out]; rfl,h⟩)
 have HNF:=keep hF
 have hFb:(u == [70,65,76,83,69])=false:=sc hF
 clear hF
 go_wp2_with fail
 refine cMg (jf ⟨u.toArray⟩ _ (by omega)) (fun _=>H10.out.below) fun w14 H16=>?_
 rw [show (⟨u.toArray⟩:ByteArray).data.toList=u from rfl,HWD.out.ha]
 clear z0 fz0 c00 c01 c02 c03 c04 c05 c06 c07 z1 c10 H10
 have F17:=H16.out.sees
 simp only [sees,af,ae,ag,Nat.add_zero,aa,Nat.reduceAdd] at F17
 obtain ⟨⟨⟨z0,fz0⟩,c00,c01,c02,c03,c04,c05,c06,c07,-⟩,⟨z1,c10,-⟩,-⟩:=F17
 clear hTb hFb hb40
 simp only []
 go_upto_region 12 with fail
 clear z0 fz0 c00 c01 c02 c03 c04 c05 c06 c07 z1 c10
 have H18:=Lib.hid (H16.out.alloc w14.heap.size 46 [.int .i64 A1,.int .i64 A2] rfl)
 clear H16
 generalize (w14.alloc (.cells #[.int .i64 A1,.int .i64 A2] 46))=W19 at H18 ⊢
 have F20:=H18.out.sees
 simp only [sees,ac,af,ae,ag,Nat.add_zero,aa,Nat.reduceAdd] at F20
 obtain ⟨⟨z0,c00,c01,-⟩,⟨⟨z1,fz1⟩,c10,c11,c12,c13,c14,c15,c16,c17,-⟩,⟨z2,c20,-⟩,-⟩:=F20
 by_cases hA:A3=0
 ·have hA0:(A3 != 0)=false:=by rw [hA]; rfl
  have HA:=keep hA
  clear hA
  go_wp2_with fail
  refine (d3 s rb q _ (by omega) (by omega) (by assumption)).mono ?_
  rintro e w21 ⟨rfl,hw22⟩
  obtain rfl:W19=w21:=hw22.symm
  rw [HBQ.out]
  by_cases h58:bq=58
  ·subst h58
   have hd58:=pK s q 58 (by decide) HBQ.out
   rw [HDQ.out,HQE.out] at hd58
   have HD58:=keep hd58
   have hq1:(q:Int)+1=(q1:Int):=by have:=HQE.out; omega
   have HQ1:=keep hq1
   have hqlt:q1≤s.size:=by
    have h9:=congrArg List.length hd58
    rw [← HDQ.out,List.length_cons,List.length_drop,List.length_drop,HSL.out] at h9
    have:=HQE.out
    omega
   clear hd58 hq1
   have hq1:=HQ1.out
   go_wp2_with fail
   refine (d3 s rb q1 _ (by omega) (by omega) (by assumption)).mono ?_
   rintro e w23 ⟨rfl,hw24⟩
   obtain rfl:W19=w23:=hw24.symm
   rw [HB1.out]
   go_wp2_with fail
   refine (eM _ _).mono ?_
   rintro e w25 ⟨rfl,hw9⟩
   obtain rfl:W19=w25:=hw9.symm
   cases hL1:ar b1
   ·have HSEC:=keep (show cH d=none by
     rw [HD58.out,cP,if_pos rfl]
     unfold fi
     simp only []
     rw [if_neg]
     rintro ⟨h9,-⟩
     rw [lY,HB1.out,hL1] at h9
     cases h9)
    clear hL1
    have HRES:=keep (HWD.out.one (i:=i) HN40.out HNT.out HNF.out HA.out HSEC.out)
    go_wp2_with fail
    refine cMg (hI A1 A2 _) (fun _=>H18.out.below) fun w26 H28=>?_
    clear z0 c00 c01 z1 fz1 c10 c11 c12 c13 c14 c15 c16 c17 z2 c20 H18
    have F29:=H28.out.sees
    simp only [sees,ac,af,ae,ag,Nat.add_zero,aa,Nat.reduceAdd] at F29
    obtain ⟨⟨z0,c00,c01,-⟩,⟨⟨z1,fz1⟩,c10,c11,c12,c13,c14,c15,c16,c17,-⟩,⟨z2,c20,-⟩,-⟩:=F29
    go_wp2_with fail
    exact e8_ [.int .i64 (n:Int)] H28 (fun W h=>by simp [results,results105,go_sem,h]) (fun h=>⟨by rw [HRES.out]; rfl,h⟩)
   obtain ⟨v,hv⟩:=ex ((bC s q1).map upB)
   obtain ⟨m,hm⟩:=ex ((bC s q1).length)
   obtain ⟨b,hb⟩:=ex (aJ v)
   have hvm:v.length=m:=by rw [← hv,List.length_map,hm]
   have hvs:(⟨v.toArray⟩:ByteArray).size=m:=hvm
   have hle2:q1+m≤s.size:=by
    have h:=(List.takeWhile_prefix (l:=s.data.toList.drop q1) au).length_le
    have h2:(bC s q1).length=((s.data.toList.drop q1).takeWhile au).length:=rfl
    rw [List.length_drop,HSL.out] at h
    omega
   obtain ⟨z,hz⟩:=ex (q1+m)
   have hzz:(q1:Int)+(m:Int)=(z:Int):=by omega
   obtain ⟨bz,hbz⟩:=ex (eh s z)
   have HSA:=keep (show fi (s.data.toList.drop q1)=if b.2.2=0∧bz≠40 then some (b.1,b.2.1,m) else none by
    unfold fi
    have h8:(s.data.toList.drop q1).dropWhile au=s.data.toList.drop z:=by
     have h7:=List.takeWhile_append_dropWhile (p:=au) (l:=s.data.toList.drop q1)
     have h6:s.data.toList.drop z=(s.data.toList.drop q1).drop m:=by rw [List.drop_drop,hz]
     rw [h6]
     conv=>rhs; arg 2; rw [← h7]
     rw [← hm]
     exact List.drop_left.symm
    have h5:((s.data.toList.drop q1).takeWhile au).map upB=v:=hv
    have h4:((s.data.toList.drop q1).takeWhile au).length=m:=hm
    simp only [h8,h5,h4,hb]
    have h3:(s.data.toList.drop q1).head?.any ar=true:=by rw [lY,HB1.out,hL1]
    have h2:(s.data.toList.drop z).head?≠some 40↔bz≠40:=by rw [ne_eq,ei s z 40 (by decide),hbz]
    by_cases h1:b.2.2=0∧bz≠40
    ·rw [if_pos h1,if_pos ⟨h3,h1.1,h2.2 h1.2⟩]
    rw [if_neg h1,if_neg (fun h=>h1 ⟨h.2.1,h2.1 h.2.2⟩)])
   have HV:=keep hv
   have HVS:=keep hvs
   have HZZ:=keep hzz
   have HBZ:=keep hbz
   have HPB:=keep hb
   obtain ⟨B1,B2,B3⟩:=b
   clear hL1 hv hm hb hvm hvs hz hzz hbz hqq hus
   go_wp2_with fail
   refine cMg (hH s rb q1 _ (by omega) (by omega) (by assumption)) (fun _=>H18.out.below) fun w26 H28=>?_
   rw [HV.out]
   clear z0 c00 c01 z1 fz1 c10 c11 c12 c13 c14 c15 c16 c17 z2 c20 H18
   have F29:=H28.out.sees
   simp only [sees,ac,af,ae,ag,Nat.add_zero,aa,Nat.reduceAdd] at F29
   obtain ⟨⟨z0,c00,c01,-⟩,⟨⟨z1,fz1⟩,c10,c11,c12,c13,c14,c15,c16,c17,-⟩,⟨z2,c20,-⟩,-⟩:=F29
   have hvs:=HVS.out
   go_wp2_with fail
   refine cMg (jf ⟨v.toArray⟩ _ (by omega)) (fun _=>H28.out.below) fun w30 H32=>?_
   rw [show (⟨v.toArray⟩:ByteArray).data.toList=v from rfl,HPB.out]
   clear z0 c00 c01 z1 fz1 c10 c11 c12 c13 c14 c15 c16 c17 z2 c20 H28
   have F33:=H32.out.sees
   simp only [sees,ac,af,ae,ag,Nat.add_zero,aa,Nat.reduceAdd] at F33
   obtain ⟨⟨z0,c00,c01,-⟩,⟨⟨z1,fz1⟩,c10,c11,c12,c13,c14,c15,c16,c17,-⟩,⟨z2,c20,-⟩,-⟩:=F33
   simp only []
   go_upto_region 18 with fail
   clear z0 c00 c01 z1 fz1 c10 c11 c12 c13 c14 c15 c16 c17 z2 c20
   have H34:=Lib.hid (H32.out.alloc w30.heap.size 46 [.int .i64 B1,.int .i64 B2] rfl)
   clear H32
   generalize (w30.alloc (.cells #[.int .i64 B1,.int .i64 B2] 46))=W35 at H34 ⊢
   have F36:=H34.out.sees
   simp only [sees,ac,af,ae,ag,Nat.add_zero,aa,Nat.reduceAdd] at F36
   obtain ⟨⟨z0,c00,c01,-⟩,⟨z1,c10,c11,-⟩,⟨⟨z2,fz2⟩,c20,c21,c22,c23,c24,c25,c26,c27,-⟩,⟨z3,c30,-⟩,-⟩:=F36
   have hzz:=HZZ.out
   have hus:=HUS.out
   by_cases hB:B3=0
   ·have hB0:(B3 == 0)=true:=by rw [hB]; rfl
    have HB:=keep hB
    clear hB
    go_wp2_with fail
    refine (d3 s rb z _ (by omega) (by omega) (by assumption)).mono ?_
    rintro e w37 ⟨rfl,hw38⟩
    obtain rfl:W35=w37:=hw38.symm
    rw [HBZ.out]
    by_cases hz40:bz=40
    ·have HSEC:=keep (show cH d=none by rw [HD58.out,cP,if_pos rfl,HSA.out,if_neg (fun h=>h.2 hz40)])
     subst hz40
     have HRES:=keep (HWD.out.one (i:=i) HN40.out HNT.out HNF.out HA.out HSEC.out)
     go_wp2_with fail
     refine cMg (hI A1 A2 _) (fun _=>H34.out.below) fun w39 H41=>?_
     clear z0 c00 c01 z1 c10 c11 z2 fz2 c20 c21 c22 c23 c24 c25 c26 c27 z3 c30 H34
     have F42:=H41.out.sees
     simp only [sees,ac,af,ae,ag,Nat.add_zero,aa,Nat.reduceAdd] at F42
     obtain ⟨⟨z0,c00,c01,-⟩,⟨z1,c10,c11,-⟩,⟨⟨z2,fz2⟩,c20,c21,c22,c23,c24,c25,c26,c27,-⟩,⟨z3,c30,-⟩,-⟩:=F42
     go_wp2_with fail
     exact e8_ [.int .i64 (n:Int)] H41 (fun W h=>by simp [results,results105,go_sem,h]) (fun h=>⟨by rw [HRES.out]; rfl,h⟩)
    have HSEC:=keep (show cH d=some (B1,B2,m) by rw [HD58.out,cP,if_pos rfl,HSA.out,if_pos ⟨HB.out,hz40⟩])
    have hb40:((bz.toNat:Int) == 40)=false:=by simpa using gL (k:=40) hz40
    have hb40':((bz.toNat:Int) != 40)=true:=by simpa using gL (k:=40) hz40
    clear hz40
    have HRES:=keep (HWD.out.two (i:=i) HN40.out HNT.out HNF.out HA.out HSEC.out)
    go_upto_region 20 with fail
    clear z0 c00 c01 z1 c10 c11 z2 fz2 c20 c21 c22 c23 c24 c25 c26 c27 z3 c30
    have H39:=Lib.hid (H34.out.alloc W35.heap.size 37 [.int .i64 (min A1 B1),.int .i64 (min A2 B2),.int .i64 (max A1 B1),.int .i64 (max A2 B2)] rfl)
    clear H34
    generalize (W35.alloc (.cells #[.int .i64 (min A1 B1),.int .i64 (min A2 B2),.int .i64 (max A1 B1),.int .i64 (max A2 B2)] 37))=W40 at H39 ⊢
    have F41:=H39.out.sees
    simp only [sees,ac,af,ae,ag,Nat.add_zero,aa,Nat.reduceAdd] at F41
    obtain ⟨⟨z0,c00,c01,c02,c03,-⟩,⟨z1,c10,c11,-⟩,⟨z2,c20,c21,-⟩,⟨⟨z3,fz3⟩,c30,c31,c32,c33,c34,c35,c36,c37,-⟩,⟨z4,c40,-⟩,-⟩:=F41
    have hn300:n≤300:=by have:=HQQ.out; omega
    have hm300:m≤300:=by omega
    by_cases hAB:A1=B1∧A2=B2
    ·have HAB:=keep hAB
     obtain ⟨rfl,rfl⟩:=hAB
     go_wp2_with fail
     exact e8_ [.int .i64 ((n:Int)+1+(m:Int))] H39 (fun W h=>by simp [results,results105,go_sem,h]) (fun h=>⟨by rw [HRES.out,if_pos HAB.out]; show _=Ending.returned (.tuple #[_,.int .i64 ((n+1+m:Nat):Int)]); rw [show ((n+1+m:Nat):Int)=(n:Int)+1+(m:Int) by omega]; unfold fD; simp only [Int.min_self,Int.max_self]; rfl,h⟩)
    have HAB:=keep hAB
    clear hAB
    by_cases hA1:A1=B1
    ·subst hA1
     have hA2:¬ A2=B2:=fun h=>HAB.out ⟨rfl,h⟩
     go_wp2_with fail
     exact e8_ [.int .i64 ((n:Int)+1+(m:Int))] H39 (fun W h=>by simp [results,results105,go_sem,h]) (fun h=>⟨by rw [HRES.out,if_neg HAB.out]; show _=Ending.returned (.tuple #[_,.int .i64 ((n+1+m:Nat):Int)]); rw [show ((n+1+m:Nat):Int)=(n:Int)+1+(m:Int) by omega]; unfold fD; simp only [Int.min_self,Int.max_self]; rfl,h⟩)
    go_wp2_with fail
    exact e8_ [.int .i64 ((n:Int)+1+(m:Int))] H39 (fun W h=>by simp [results,results105,go_sem,h]) (fun h=>⟨by rw [HRES.out,if_neg HAB.out]; show _=Ending.returned (.tuple #[_,.int .i64 ((n+1+m:Nat):Int)]); rw [show ((n+1+m:Nat):Int)=(n:Int)+1+(m:Int) by omega]; rfl,h⟩)
   have hB0:(B3 == 0)=false:=by simpa using hB
   have HSEC:=keep (show cH d=none by rw [HD58.out,cP,if_pos rfl,HSA.out,if_neg (fun h=>hB h.1)])
   clear hB
   have HRES:=keep (HWD.out.one (i:=i) HN40.out HNT.out HNF.out HA.out HSEC.out)
   go_wp2_with fail
   refine cMg (hI A1 A2 _) (fun _=>H34.out.below) fun w37 H39=>?_
   clear z0 c00 c01 z1 c10 c11 z2 fz2 c20 c21 c22 c23 c24 c25 c26 c27 z3 c30 H34
   have F40:=H39.out.sees
   simp only [sees,ac,af,ae,ag,Nat.add_zero,aa,Nat.reduceAdd] at F40
   obtain ⟨⟨z0,c00,c01,-⟩,⟨z1,c10,c11,-⟩,⟨⟨z2,fz2⟩,c20,c21,c22,c23,c24,c25,c26,c27,-⟩,⟨z3,c30,-⟩,-⟩:=F40
   go_wp2_with fail
   exact e8_ [.int .i64 (n:Int)] H39 (fun W h=>by simp [results,results105,go_sem,h]) (fun h=>⟨by rw [HRES.out]; rfl,h⟩)
  have HSEC:=keep (show cH d=none by
   refine iV ?_
   rw [← HDQ.out,ne_eq,ei s q 58 (by decide),HBQ.out]
   exact h58)
  have hb58:((bq.toNat:Int) == 58)=false:=by simpa using gL (k:=58) h58
  clear h58
  have HRES:=keep (HWD.out.one (i:=i) HN40.out HNT.out HNF.out HA.out HSEC.out)
  go_wp2_with fail
  refine cMg (hI A1 A2 _) (fun _=>H18.out.below) fun w23 H25=>?_
  clear z0 c00 c01 z1 fz1 c10 c11 c12 c13 c14 c15 c16 c17 z2 c20 H18
  have F26:=H25.out.sees
  simp only [sees,ac,af,ae,ag,Nat.add_zero,aa,Nat.reduceAdd] at F26
  obtain ⟨⟨z0,c00,c01,-⟩,⟨⟨z1,fz1⟩,c10,c11,c12,c13,c14,c15,c16,c17,-⟩,⟨z2,c20,-⟩,-⟩:=F26
  go_wp2_with fail
  exact e8_ [.int .i64 (n:Int)] H25 (fun W h=>by simp [results,results105,go_sem,h]) (fun h=>⟨by rw [HRES.out]; rfl,h⟩)
 have HRES:=keep (HWD.out.bad (i:=i) HN40.out HNT.out HNF.out hA)
 have hA0:(A3 != 0)=true:=by simpa using hA
 clear hA
 go_wp2_with fail
 exact e8_ [.int .i64 0] H18 (fun W h=>by simp [results,results105,go_sem,h]) (fun h=>⟨by rw [HRES.out]; rfl,h⟩)
end
section
open Go.RowKit Go.Proofs.Tryz
def bN (t:Tk):List Value:=[.int .u8 t.kind,.int .i64 t.num,.string ⟨t.text.toArray⟩,.int .i64 t.r.c1,.int .i64 t.r.r1,.int .i64 t.r.c2,.int .i64 t.r.r2,.int .i64 (t.at_:Nat)]
def eU (l:List Tk):List Value:=l.flatMap bN
theorem cY (l:List Tk) (t:Tk):eU (l++[t])=eU l++bN t:=by simp [eU]
def Tks (S:List UInt8) (k:Nat) (l:List Tk):Prop:=∃ f,S.length - k≤f∧bV S.length 0 S=(bV f k (S.drop k)).map (l++·)
theorem Tks.start (S:List UInt8):Tks S 0 []:=⟨S.length,by omega,by
 rw [List.drop_zero]
 cases bV S.length 0 S with
 | error e=>rfl
 | ok x=>rfl⟩
theorem Tks.fuel {S:List UInt8} {k:Nat} {l:List Tk} (h:Tks S k l) (hk:k<S.length):∃ f,S.length - (k+1)≤f∧bV S.length 0 S=(bV (f+1) k (S[k]::S.drop (k+1))).map (l++·):=by
 obtain ⟨f,h1,h2⟩:=h
 obtain ⟨g,rfl⟩:∃ g,f=g+1:=⟨f - 1,by omega⟩
 exact ⟨g,by omega,by rw [h2,List.drop_eq_getElem_cons hk]⟩
theorem Tks.blank {S:List UInt8} {k:Nat} {l:List Tk} (h:Tks S k l) (hk:k<S.length) (h1:S[k]=32):Tks S (k+1) l:=by
 obtain ⟨f,h2,h3⟩:=h.fuel hk
 refine ⟨f,h2,?_⟩
 rw [h3,bV,if_pos h1]
theorem Tks.tok {S:List UInt8} {k n:Nat} {l:List Tk} {t:Tk} (h:Tks S k l) (hk:k<S.length) (h1:S[k]≠32) (ht:ee k (S.drop k)=some (t,n)):Tks S (k+n) (l++[t]):=by
 obtain ⟨f,h2,h3⟩:=h.fuel hk
 have hn:=(fI ht).1
 refine ⟨f,by omega,?_⟩
 rw [← List.drop_eq_getElem_cons hk] at h3
 rw [h3]
 have hd:=List.drop_eq_getElem_cons hk
 rw [hd,bV,if_neg h1,← hd,ht]
 simp only [List.drop_drop]
 cases bV f (k+n) (S.drop (k+n)) with
 | error e=>rfl
 | ok x=>simp [Except.map]
theorem Tks.bad {S:List UInt8} {k:Nat} {l:List Tk} (h:Tks S k l) (hk:k<S.length) (h1:S[k]≠32) (ht:ee k (S.drop k)=none):bV S.length 0 S=.error k:=by
 obtain ⟨f,h2,h3⟩:=h.fuel hk
 rw [h3]
 have hd:=List.drop_eq_getElem_cons hk
 rw [bV,if_neg h1,← hd,ht]
 rfl
theorem Tks.done {S:List UInt8} {l:List Tk} (h:Tks S S.length l):bV S.length 0 S=.ok l:=by
 obtain ⟨f,h2,h3⟩:=h
 rw [h3,List.drop_eq_nil_of_le (Nat.le_refl _)]
 cases f with
 | zero=>simp [bV,Except.map]
 | succ f=>simp [bV,Except.map]
def orR (a b:Option (Tk×Nat)):Option (Tk×Nat):=match a with
 | some x=>some x
 | none=>b
theorem dF (b:UInt8) (r:List UInt8) (i:Nat):ee i (b::r)=orR (ga (b::r) i) (orR (gb (b::r) i) (orR (bX (b::r) i) (orR (jw (b::r) i) (dP (b::r) i)))):=by
 have e35:∀ c:UInt8,c≠35→jw (c::r) i=none:=by
  intro c hc
  have h:=nu (x:=[c]) (z:=r) (by simpa using hc) (by simp)
  unfold jw
  rw [show c::r=[c]++r from rfl,h]
  rfl
 rw [cZ]
 by_cases hd:ah b=true
 ·rw [if_pos hd]
  have hb:b≠34:=by rintro rfl; revert hd; decide
  have hl:ar b=false:=fx hd
  have h35:b≠35:=by rintro rfl; revert hd; decide
  have e1:gb (b::r) i=none:=by unfold gb; rw [if_neg (by simpa using hb)]
  have e2:bX (b::r) i=none:=by unfold bX; rw [if_neg (by simp [hl])]
  have e4:dP (b::r) i=none:=by
   unfold dP
   have h:opS (b::r)=none:=by
    cases h:opS (b::r) with
    | none=>rfl
    | some q =>
     obtain ⟨k,v,n⟩:=q
     rw [bQ] at h
     have key:∀ c:UInt8,ah c=true→c≠60∧c≠62∧op1 c=none:=by
      intro c hc
      have hc2:48≤c.toNat∧c.toNat≤57:=by simpa [ah] using hc
      refine ⟨by rintro rfl; revert hc2; decide,by rintro rfl; revert hc2; decide,?_⟩
      unfold op1
      rw [show iP.find? (fun x=>x.1 == c)=none from ?_]
      ·rfl
      rw [List.find?_eq_none]
      intro x hx
      have hall:∀ y∈iP,¬ (48≤y.1.toNat∧y.1.toNat≤57):=by decide
      have hx2:=hall x hx
      intro e
      rw [beq_iff_eq] at e
      rw [e] at hx2
      exact hx2 hc2
     obtain ⟨k1,k2,k3⟩:=key b hd
     rw [if_neg k1,if_neg k2,k3] at h
     cases h
   rw [h]
   rfl
  rw [e1,e2,e35 b h35,e4]
  show (e8 (b::r)).map (fun x=>((⟨1,x.1,[],R4.zero,i⟩:Tk),x.2))=orR (ga (b::r) i) none
  unfold ga
  cases e8 (b::r) <;> rfl
 rw [if_neg hd]
 have e0:ga (b::r) i=none:=o7 (by rw [List.takeWhile_cons,if_neg hd])
 rw [e0]
 show _=orR (gb (b::r) i) _
 by_cases hq:b=34
 ·subst hq
  rw [if_pos rfl]
  have e2:bX (34::r) i=none:=by unfold bX; rw [if_neg (by simp; decide)]
  have e4:dP (34::r) i=none:=rfl
  rw [e2,e35 34 (by decide),e4]
  unfold gb
  rw [if_pos (show (34::r).head?=some 34 from rfl)]
  show (aP r).map _=orR ((aP r).map _) none
  cases aP r <;> rfl
 rw [if_neg hq]
 have e1:gb (b::r) i=none:=by unfold gb; rw [if_neg (by simpa using hq)]
 rw [e1]
 show _=orR (bX (b::r) i) _
 by_cases hl:ar b=true
 ·rw [if_pos hl]
  have h35:b≠35:=by rintro rfl; revert hl; decide
  have e4:dP (b::r) i=none:=by
   unfold dP
   have hb:=(o1 b).1 hl
   have k1:b≠60:=by rintro rfl; revert hb; decide
   have k2:b≠62:=by rintro rfl; revert hb; decide
   have k3:op1 b=none:=by
    unfold op1
    rw [show iP.find? (fun x=>x.1 == b)=none from ?_]
    ·rfl
    rw [List.find?_eq_none]
    intro x hx
    have hall:∀ y∈iP,¬ ((65≤y.1.toNat∧y.1.toNat≤90)∨(97≤y.1.toNat∧y.1.toNat≤122)):=by decide
    have hx2:=hall x hx
    intro e
    rw [beq_iff_eq] at e
    rw [e] at hx2
    exact hx2 hb
   rw [bQ,if_neg k1,if_neg k2,k3]
   rfl
  rw [e35 b h35,e4]
  unfold bX
  rw [if_pos (by simpa using hl)]
  cases bU (b::r) i <;> rfl
 rw [if_neg hl]
 have e2:bX (b::r) i=none:=by unfold bX; rw [if_neg (by simpa using hl)]
 rw [e2]
 show _=orR (jw (b::r) i) (dP (b::r) i)
 unfold jw
 cases gq (b::r) with
 | none=>rfl
 | some q=>rfl
theorem rB:(prog.info? 97).map (fun i=>(i.zero,i.size,i.bytes))=some (some (.agg #[.int .u8 0,.int .i64 0,.string ⟨#[]⟩,.int .i64 0,.int .i64 0,.int .i64 0,.int .i64 0,.int .i64 0]),8,72):=by kernel_rfl
end
