/- The contract of the lexer's number. Plain: what dec.Parse makes of any text. No program stands here. Plain: the text of a token is read as the token. No program stands here. What a strings.Builder's WriteString comes to, off the shelf's own laws. The contracts of glyph.Check and glyph.Quote. lex.name: whether a word may be a name. The contracts of dec.size, dec.decimal and dec.Format. Rows of strings, and strings.Join of them. Plain: the texts of ranges and of numbers are read as the tokens. No program stands here. -/
import Derived.Test.YtdplcdhpnmcdjaaGreatDoorKLexD
import Derived.Test.YtdplcdhpnmcdjaaGreatDoorKTg
import Derived.Test.YtdplcdhpnmcdjaaGreatDoorKShelf
import Derived.Shelf.Strings.BuilderF
import Derived.Test.YtdplcdhpnmcdjaaGreatDoorKLexI
import Derived.Test.YtdplcdhpnmcdjaaGreatDoorKLexP
import Derived.Lib.Replace
import Derived.Test.YtdplcdhpnmcdjaaGreatDoorKLexC
import Derived.IntWalk
import Derived.Lib.AppendStr
namespace Go.Proofs.YtdplcdhpnmcdjaaGreatDoor
set_option maxRecDepth 100000
set_option maxHeartbeats 4000000
open Go.RowKit Go.Proofs.Tryz
def tkA (t:Tk):Value:=.agg #[.int .u8 t.kind,.int .i64 t.num,.string ⟨t.text.toArray⟩,.int .i64 t.r.c1,.int .i64 t.r.r1,.int .i64 t.r.c2,.int .i64 t.r.r2,.int .i64 (t.at_:Nat)]
def Tk.zero:Tk:=⟨0,0,[],R4.zero,0⟩
def fF:Option (Tk×Nat)→Value
 | none=>.tuple #[tkA Tk.zero,.int .i64 0]
 | some (t,n)=>.tuple #[tkA t,.int .i64 (n:Int)]
theorem iN (s:ByteArray) (j:Int) (i:Nat) (w:World) (hj:j=(i:Int)) (hi:i≤s.size) (hs:s.size≤4611686018427387904) :
  Calls prog 155 #[.string s,.int .i64 j,.func (.func 156) #[] #[]] w fun e w'=>e=.returned (.int .i64 ((cq s i).length:Int))∧Below w.heap.size w w':=by
 subst hj
 exact cI s i w hi hs
def aK (s:ByteArray) (i:Nat):List UInt8:=s.data.toList.drop i
def ga (l:List UInt8) (i:Nat):Option (Tk×Nat):=(e8 l).map fun x=>(⟨1,x.1,[],R4.zero,i⟩,x.2)
theorem ey {w:World} {rb:Nat} {s:ByteArray} (hr:w.cell? ⟨rb,0,none⟩=some (.string s)):Ok w [ae rb 0 [.string s]] w :=
 (Ok.start w).add (ae rb 0 [.string s]) ⟨World.block_lt_of_cell? w _ hr,hr,trivial⟩
theorem o7 {l:List UInt8} {i:Nat} (h:l.takeWhile ah=[]):ga l i=none:=by
 unfold ga e8
 simp [h]
theorem rK {l:List UInt8} {i:Nat} (h:4<(bw (l.dropWhile ah)).length):ga l i=none:=by
 unfold ga e8
 simp [h]
theorem fU {l:List UInt8} {i:Nat} (h:¬ cA (l.takeWhile ah) (bw (l.dropWhile ah))≤aD):ga l i=none:=by
 unfold ga e8
 unfold aD at h
 rw [if_pos (by right; right; omega)]
 rfl
theorem gV {l:List UInt8} {i:Nat} (h0:l.takeWhile ah≠[]) (h1:(bw (l.dropWhile ah)).length≤4) (h2:cA (l.takeWhile ah) (bw (l.dropWhile ah))≤aD) :
  ga l i=some (⟨1,(cA (l.takeWhile ah) (bw (l.dropWhile ah)):Int),[],R4.zero,i⟩,(l.takeWhile ah).length+if bw (l.dropWhile ah)=[] then 0 else (bw (l.dropWhile ah)).length+1):=by
 unfold ga e8
 unfold aD at h2
 simp only []
 rw [if_neg (by rintro (h | h | h) <;> first | exact h0 h | omega)]
 rfl
theorem ko (s:ByteArray) (rb i:Nat) (w:World) (hs:s.size≤300) (hi:i<s.size) (hr:w.cell? ⟨rb,0,none⟩=some (.string s)) :
  Calls prog 103 #[.pointer (some ⟨rb,0,none⟩),.int .i64 (i:Int)] w fun e w'=>e=.returned (fF (ga (aK s i) i))∧Below w.heap.size w w':=by
 have hsl:s.data.toList.length=s.size:=by rw [Array.length_toList]; rfl
 obtain ⟨hl,hrun,hstop⟩:=br ah (aK s i)
 have hrl:(aK s i).length+i=s.size:=by unfold aK; rw [List.length_drop]; omega
 have hdr:cq s i=(aK s i).takeWhile ah:=rfl
 obtain ⟨u,hu⟩:=ex ((aK s i).takeWhile ah)
 obtain ⟨d,hd⟩:=ex ((aK s i).dropWhile ah)
 rw [hu] at hl hrun hdr
 rw [hd] at hl hstop
 have hlen:u.length+d.length+i=s.size:=by rw [hl,List.length_append] at hrl; omega
 obtain ⟨n,hn⟩:=ex (u.length)
 rw [hn] at hlen
 have hh:=ey hr
 have H0:=Lib.hid hh
 have HDR:=keep hdr
 have HN:=keep hn
 have HSL:=keep hsl
 have HU:=keep hu
 have HD:=keep hd
 have HL:=keep hl
 have HRUN:=keep hrun
 have HST:=keep hstop
 clear hh hdr hsl hrl hu hd hl hrun hstop
 by_cases h0:n=0
 ·subst h0
  clear hn
  have F1:=H0.out.sees
  simp only [sees,ae,ag,Nat.add_zero] at F1
  obtain ⟨⟨z0,c00,-⟩,-⟩:=F1
  go_enter func103,ntmps103
  go_wp2_with fail
  have y2:=z0
  clear z0 c00
  have H3:=Lib.hid (H0.out.var w.heap.size 97 [.int .u8 0,.int .i64 0,.string ⟨#[]⟩,.int .i64 0,.int .i64 0,.int .i64 0,.int .i64 0,.int .i64 0] rfl)
  clear H0
  generalize (w.alloc (.cells #[.int .u8 0,.int .i64 0,.string ⟨#[]⟩,.int .i64 0,.int .i64 0,.int .i64 0,.int .i64 0,.int .i64 0] 97))=W4 at H3 ⊢
  refine cMg (cI s i _ (by omega) (by omega)) (fun _=>H3.out.below) fun w5 H7=>?_
  rw [HDR.out,HN.out]
  clear H3
  have F8:=H7.out.sees
  simp only [sees,af,ae,ag,Nat.add_zero,aa,Nat.reduceAdd] at F8
  obtain ⟨⟨⟨z0,fz0⟩,c00,c01,c02,c03,c04,c05,c06,c07,-⟩,⟨z1,c10,-⟩,-⟩:=F8
  go_wp2_with fail
  exact e8_ [.int .i64 0] H7 (fun W h=>by simp [results,results103,go_sem,h]) (fun h=>⟨by rw [o7 (by rw [HU.out]; exact List.length_eq_zero_iff.1 HN.out)]; rfl,h⟩)
 have hn0:¬ (n:Int)=0:=by omega
 have hul:1≤n:=by omega
 have HNE:=keep (show (aK s i).takeWhile ah≠[] from by rw [HU.out]; intro e; have:=HN.out; rw [e] at this; simp at this; omega)
 obtain ⟨q,hq⟩:=ex (i+n)
 have hqs:q≤s.size:=by omega
 have hA:(s.extract i q).data.toList=u:=by
  rw [Lib.extract_data,← hq,Nat.add_sub_cancel_left,← HN.out]
  show (aK s i).take u.length=u
  rw [HL.out,List.take_left]
 have hQ:(i:Int)+(n:Int)=(q:Int):=by omega
 have hdq:s.data.toList.drop q=d:=by
  have h9:s.data.toList.drop q=(aK s i).drop n:=by unfold aK; rw [List.drop_drop,hq]
  rw [h9,HL.out,← HN.out,List.drop_left]
 have HDQ:=keep hdq
 have HA:=keep hA
 have HQ:=keep hq
 have hiq:(i:Int)≤q:=by omega
 clear hn h0 hdq hA hq hQ
 by_cases h1:(q:Int)+1<s.size
 ·have hq1:q<s.size:=by omega
  have hq2:q+1<s.size:=by omega
  have hdd : d = s[q]'hq1 :: s[q + 1]'hq2 :: s.data.toList.drop (q + 2):=by
   rw [← HDQ.out,List.drop_eq_getElem_cons (by rw [HSL.out]; exact hq1),List.drop_eq_getElem_cons (by rw [HSL.out]; exact hq2)]
   rfl
  have ht1:((q:Int)+1).toNat=q+1:=by omega
  by_cases h2 : ((s[q]'hq1).toNat : Int) = 46
  ·have h46 : s[q]'hq1 = 46:=by rw [← UInt8.toNat_inj]; show _ = 46; omega
   rw [h46] at hdd
   cases h3 : ah (s[q + 1]'hq2)
   ·have HP:=keep (show bw d=[] by rw [hdd,places_cons,if_pos rfl,List.takeWhile_cons,if_neg (by rw [h3]; decide)])
    have H3:=keep h3
    have h2' : (((s[q]'hq1).toNat : Int) == 46) = true:=by rw [h2]; rfl
    clear h3 hdd h46 h2
    have F1:=H0.out.sees
    simp only [sees,ae,ag,Nat.add_zero] at F1
    obtain ⟨⟨z0,c00,-⟩,-⟩:=F1
    go_enter func103,ntmps103
    go_wp2_with fail
    have y2:=z0
    clear z0 c00
    have H3:=Lib.hid (H0.out.var w.heap.size 97 [.int .u8 0,.int .i64 0,.string ⟨#[]⟩,.int .i64 0,.int .i64 0,.int .i64 0,.int .i64 0,.int .i64 0] rfl)
    clear H0
    generalize (w.alloc (.cells #[.int .u8 0,.int .i64 0,.string ⟨#[]⟩,.int .i64 0,.int .i64 0,.int .i64 0,.int .i64 0,.int .i64 0] 97))=W4 at H3 ⊢
    refine cMg (cI s i _ (by omega) (by omega)) (fun _=>H3.out.below) fun w5 H7=>?_
    rw [HDR.out,HN.out]
    clear H3
    have F8:=H7.out.sees
    simp only [sees,af,ae,ag,Nat.add_zero,aa,Nat.reduceAdd] at F8
    obtain ⟨⟨⟨z0,fz0⟩,c00,c01,c02,c03,c04,c05,c06,c07,-⟩,⟨z1,c10,-⟩,-⟩:=F8
    have hQ:(i:Int)+(n:Int)=(q:Int):=by have:=HQ.out; omega
    go_wp2_with fail
    refine (ep _ _).mono ?_
    rintro e w9 ⟨rfl,hw9⟩
    subst hw9
    rw [H3.out]
    go_wp2_with fail
    refine cMg (fl (s.extract i q) _ (by simp; omega) (by simp; omega) (by rw [HA.out]; exact HRUN.out)) (fun _=>H7.out.below) fun w9 H11=>?_
    rw [HA.out]
    clear z0 fz0 c00 c01 c02 c03 c04 c05 c06 c07 z1 c10 H7
    have F12:=H11.out.sees
    simp only [sees,af,ae,ag,Nat.add_zero,aa,Nat.reduceAdd] at F12
    obtain ⟨⟨⟨z0,fz0⟩,c00,c01,c02,c03,c04,c05,c06,c07,-⟩,⟨z1,c10,-⟩,-⟩:=F12
    by_cases hG:cA u []≤aD
    ·have HG:=keep hG
     rw [(b8 HG.out).1,(b8 HG.out).2]
     clear hG
     go_wp2_with fail
     exact e8_ [.int .i64 (n:Int)] H11 (fun W h=>by simp [results,results103,go_sem,h]) (fun h=>⟨by rw [gV HNE.out (by rw [HD.out,HP.out]; simp) (by rw [HU.out,HD.out,HP.out]; exact HG.out),HU.out,HD.out,HP.out,HN.out]; rfl,h⟩)
    have HG:=keep hG
    rw [(cF HG.out).1,(cF HG.out).2]
    clear hG
    go_wp2_with fail
    exact e8_ [.int .i64 0] H11 (fun W h=>by simp [results,results103,go_sem,h]) (fun h=>⟨by rw [fU (by rw [HU.out,HD.out,HP.out]; exact HG.out)]; rfl,h⟩)
   obtain ⟨v,hv⟩:=ex (cq s (q+1))
   obtain ⟨hl5,hvd,hst5⟩:=br ah (s.data.toList.drop (q+1))
   have hv2:(s.data.toList.drop (q+1)).takeWhile ah=v:=hv
   rw [hv2] at hl5 hvd
   generalize (s.data.toList.drop (q+1)).dropWhile ah=d5 at hl5 hst5
   have hdc:d=46::s.data.toList.drop (q+1):=by
    rw [hdd]
    rw [show s.data.toList.drop (q + 1) = s[q + 1]'hq2 :: s.data.toList.drop (q + 2) from List.drop_eq_getElem_cons (by rw [HSL.out]; exact hq2)]
   have HP:=keep (show bw d=v by rw [hdc,places_cons,if_pos rfl,hv2])
   have hv0:v≠[]:=by
    intro e
    rw [← hv2,List.drop_eq_getElem_cons (by rw [HSL.out]; exact hq2),List.takeWhile_cons,if_pos (show ah s.data.toList[q+1]=true from h3)] at e
    simp at e
   obtain ⟨k,hk⟩:=ex (v.length)
   have hk1:1≤k:=by
    rw [← hk]
    cases v with
    | nil=>exact absurd rfl hv0
    | cons=>simp
   have hlk:q+1+k≤s.size:=by
    have h9:=congrArg List.length hl5
    rw [List.length_append,List.length_drop,HSL.out,hk] at h9
    omega
   obtain ⟨z,hz⟩:=ex (q+1+k)
   have hzs:z≤s.size:=by omega
   have hiz:(i:Int)≤z:=by omega
   have hB:(s.extract i z).data.toList=u++46::v:=by
    rw [Lib.extract_data]
    show (aK s i).take (z - i)=_
    rw [HL.out,hdc,hl5,List.take_append,List.take_of_length_le (by rw [HN.out]; have:=HQ.out; omega),HN.out,show z - i - n=k+1 by have:=HQ.out; omega,List.take_succ_cons,← hk,List.take_left]
   have HV0:=keep hv0
   have HV:=keep hv
   have HK:=keep hk
   have HB:=keep hB
   have HVD:=keep hvd
   have H3:=keep h3
   have HZ:=keep hz
   have h2' : (((s[q]'hq1).toNat : Int) == 46) = true:=by rw [h2]; rfl
   have hq3:((q:Int)+1)=((q+1:Nat):Int):=by omega
   have HQ3:=keep hq3
   clear h3 hdd h46 h2 hv hl5 hvd hst5 hv2 hdc hv0 hk hz hB hq3
   by_cases h5:4<k
   ·have h5i:(k:Int)>4:=by omega
    have F1:=H0.out.sees
    simp only [sees,ae,ag,Nat.add_zero] at F1
    obtain ⟨⟨z0,c00,-⟩,-⟩:=F1
    go_enter func103,ntmps103
    go_wp2_with fail
    have y2:=z0
    clear z0 c00
    have H3:=Lib.hid (H0.out.var w.heap.size 97 [.int .u8 0,.int .i64 0,.string ⟨#[]⟩,.int .i64 0,.int .i64 0,.int .i64 0,.int .i64 0,.int .i64 0] rfl)
    clear H0
    generalize (w.alloc (.cells #[.int .u8 0,.int .i64 0,.string ⟨#[]⟩,.int .i64 0,.int .i64 0,.int .i64 0,.int .i64 0,.int .i64 0] 97))=W4 at H3 ⊢
    refine cMg (cI s i _ (by omega) (by omega)) (fun _=>H3.out.below) fun w5 H7=>?_
    rw [HDR.out,HN.out]
    clear H3
    have F8:=H7.out.sees
    simp only [sees,af,ae,ag,Nat.add_zero,aa,Nat.reduceAdd] at F8
    obtain ⟨⟨⟨z0,fz0⟩,c00,c01,c02,c03,c04,c05,c06,c07,-⟩,⟨z1,c10,-⟩,-⟩:=F8
    have hQ:(i:Int)+(n:Int)=(q:Int):=by have:=HQ.out; omega
    go_wp2_with fail
    refine (ep _ _).mono ?_
    rintro e w9 ⟨rfl,hw9⟩
    subst hw9
    rw [H3.out]
    go_wp2_with fail
    refine cMg (iN s _ (q+1) _ HQ3.out (by omega) (by omega)) (fun _=>H7.out.below) fun w9 H11=>?_
    rw [HV.out,HK.out]
    clear z0 fz0 c00 c01 c02 c03 c04 c05 c06 c07 z1 c10 H7
    have F12:=H11.out.sees
    simp only [sees,af,ae,ag,Nat.add_zero,aa,Nat.reduceAdd] at F12
    obtain ⟨⟨⟨z0,fz0⟩,c00,c01,c02,c03,c04,c05,c06,c07,-⟩,⟨z1,c10,-⟩,-⟩:=F12
    go_wp2_with fail
    exact e8_ [.int .i64 0] H11 (fun W h=>by simp [results,results103,go_sem,h]) (fun h=>⟨by rw [rK (by rw [HD.out,HP.out,HK.out]; exact h5)]; rfl,h⟩)
   have h5i:¬ (k:Int)>4:=by omega
   have F1:=H0.out.sees
   simp only [sees,ae,ag,Nat.add_zero] at F1
   obtain ⟨⟨z0,c00,-⟩,-⟩:=F1
   go_enter func103,ntmps103
   go_wp2_with fail
   have y2:=z0
   clear z0 c00
   have H3:=Lib.hid (H0.out.var w.heap.size 97 [.int .u8 0,.int .i64 0,.string ⟨#[]⟩,.int .i64 0,.int .i64 0,.int .i64 0,.int .i64 0,.int .i64 0] rfl)
   clear H0
   generalize (w.alloc (.cells #[.int .u8 0,.int .i64 0,.string ⟨#[]⟩,.int .i64 0,.int .i64 0,.int .i64 0,.int .i64 0,.int .i64 0] 97))=W4 at H3 ⊢
   refine cMg (cI s i _ (by omega) (by omega)) (fun _=>H3.out.below) fun w5 H7=>?_
   rw [HDR.out,HN.out]
   clear H3
   have F8:=H7.out.sees
   simp only [sees,af,ae,ag,Nat.add_zero,aa,Nat.reduceAdd] at F8
   obtain ⟨⟨⟨z0,fz0⟩,c00,c01,c02,c03,c04,c05,c06,c07,-⟩,⟨z1,c10,-⟩,-⟩:=F8
   have hQ:(i:Int)+(n:Int)=(q:Int):=by have:=HQ.out; omega
   go_wp2_with fail
   refine (ep _ _).mono ?_
   rintro e w9 ⟨rfl,hw9⟩
   subst hw9
   rw [H3.out]
   go_wp2_with fail
   refine cMg (iN s _ (q+1) _ HQ3.out (by omega) (by omega)) (fun _=>H7.out.below) fun w9 H11=>?_
   rw [HV.out,HK.out]
   clear z0 fz0 c00 c01 c02 c03 c04 c05 c06 c07 z1 c10 H7
   have F12:=H11.out.sees
   simp only [sees,af,ae,ag,Nat.add_zero,aa,Nat.reduceAdd] at F12
   obtain ⟨⟨⟨z0,fz0⟩,c00,c01,c02,c03,c04,c05,c06,c07,-⟩,⟨z1,c10,-⟩,-⟩:=F12
   have hQ2:(n:Int)+(1+(k:Int))=((n+(1+k):Nat):Int):=by omega
   have hQ3:(i:Int)+((n+(1+k):Nat):Int)=(z:Int):=by have:=HQ.out; have:=HZ.out; omega
   obtain ⟨nn,hnn⟩:=ex (n+(1+k))
   rw [hnn] at hQ2 hQ3
   have hres:cA u v≤aD→ga (aK s i) i=some (⟨1,(cA u v:Int),[],R4.zero,i⟩,nn):=by
    intro hG
    rw [gV HNE.out (by rw [HD.out,HP.out,HK.out]; omega) (by rw [HU.out,HD.out,HP.out]; exact hG),HU.out,HD.out,HP.out,HN.out,if_neg HV0.out,HK.out]
    rw [Nat.add_comm k 1,hnn]
   have HRES:=keep hres
   clear hres
   clear hnn
   go_wp2_with fail
   refine cMg (l7 (s.extract i z) u v _ (by simp; omega) HB.out HRUN.out HVD.out (by rw [← HU.out]; exact HNE.out) HV0.out (by rw [HK.out]; omega)) (fun _=>H11.out.below) fun w13 H15=>?_
   clear z0 fz0 c00 c01 c02 c03 c04 c05 c06 c07 z1 c10 H11
   have F16:=H15.out.sees
   simp only [sees,af,ae,ag,Nat.add_zero,aa,Nat.reduceAdd] at F16
   obtain ⟨⟨⟨z0,fz0⟩,c00,c01,c02,c03,c04,c05,c06,c07,-⟩,⟨z1,c10,-⟩,-⟩:=F16
   by_cases hG:cA u v≤aD
   ·have HG:=keep hG
    rw [(b8 HG.out).1,(b8 HG.out).2]
    clear hG
    go_wp2_with fail
    exact e8_ [.int .i64 (nn:Int)] H15 (fun W h=>by simp [results,results103,go_sem,h]) (fun h=>⟨by rw [HRES.out HG.out]; rfl,h⟩)
   have HG:=keep hG
   rw [(cF HG.out).1,(cF HG.out).2]
   clear hG
   go_wp2_with fail
   exact e8_ [.int .i64 0] H15 (fun W h=>by simp [results,results103,go_sem,h]) (fun h=>⟨by rw [fU (by rw [HU.out,HD.out,HP.out]; exact HG.out)]; rfl,h⟩)
  have h46 : s[q]'hq1 ≠ 46:=by intro h; rw [h] at h2; exact h2 rfl
  have HP:=keep (show bw d=[] by rw [hdd,places_cons,if_neg h46])
  have h2' : (((s[q]'hq1).toNat : Int) == 46) = false:=by simpa using h2
  clear hdd h46 h2
  have F1:=H0.out.sees
  simp only [sees,ae,ag,Nat.add_zero] at F1
  obtain ⟨⟨z0,c00,-⟩,-⟩:=F1
  go_enter func103,ntmps103
  go_wp2_with fail
  have y2:=z0
  clear z0 c00
  have H3:=Lib.hid (H0.out.var w.heap.size 97 [.int .u8 0,.int .i64 0,.string ⟨#[]⟩,.int .i64 0,.int .i64 0,.int .i64 0,.int .i64 0,.int .i64 0] rfl)
  clear H0
  generalize (w.alloc (.cells #[.int .u8 0,.int .i64 0,.string ⟨#[]⟩,.int .i64 0,.int .i64 0,.int .i64 0,.int .i64 0,.int .i64 0] 97))=W4 at H3 ⊢
  refine cMg (cI s i _ (by omega) (by omega)) (fun _=>H3.out.below) fun w5 H7=>?_
  rw [HDR.out,HN.out]
  clear H3
  have F8:=H7.out.sees
  simp only [sees,af,ae,ag,Nat.add_zero,aa,Nat.reduceAdd] at F8
  obtain ⟨⟨⟨z0,fz0⟩,c00,c01,c02,c03,c04,c05,c06,c07,-⟩,⟨z1,c10,-⟩,-⟩:=F8
  have hQ:(i:Int)+(n:Int)=(q:Int):=by have:=HQ.out; omega
  go_wp2_with fail
  refine cMg (fl (s.extract i q) _ (by simp; omega) (by simp; omega) (by rw [HA.out]; exact HRUN.out)) (fun _=>H7.out.below) fun w9 H11=>?_
  rw [HA.out]
  clear z0 fz0 c00 c01 c02 c03 c04 c05 c06 c07 z1 c10 H7
  have F12:=H11.out.sees
  simp only [sees,af,ae,ag,Nat.add_zero,aa,Nat.reduceAdd] at F12
  obtain ⟨⟨⟨z0,fz0⟩,c00,c01,c02,c03,c04,c05,c06,c07,-⟩,⟨z1,c10,-⟩,-⟩:=F12
  by_cases hG:cA u []≤aD
  ·have HG:=keep hG
   rw [(b8 HG.out).1,(b8 HG.out).2]
   clear hG
   go_wp2_with fail
   exact e8_ [.int .i64 (n:Int)] H11 (fun W h=>by simp [results,results103,go_sem,h]) (fun h=>⟨by rw [gV HNE.out (by rw [HD.out,HP.out]; simp) (by rw [HU.out,HD.out,HP.out]; exact HG.out),HU.out,HD.out,HP.out,HN.out]; rfl,h⟩)
  have HG:=keep hG
  rw [(cF HG.out).1,(cF HG.out).2]
  clear hG
  go_wp2_with fail
  exact e8_ [.int .i64 0] H11 (fun W h=>by simp [results,results103,go_sem,h]) (fun h=>⟨by rw [fU (by rw [HU.out,HD.out,HP.out]; exact HG.out)]; rfl,h⟩)
 have HP:=keep (show bw d=[] by
  have h9:d.length≤1:=by have:=HQ.out; omega
  match d,h9 with
  | [],_=>rfl
  | [b],_=>rw [places_cons]; split <;> rfl)
 have F1:=H0.out.sees
 simp only [sees,ae,ag,Nat.add_zero] at F1
 obtain ⟨⟨z0,c00,-⟩,-⟩:=F1
 go_enter func103,ntmps103
 go_wp2_with fail
 have y2:=z0
 clear z0 c00
 have H3:=Lib.hid (H0.out.var w.heap.size 97 [.int .u8 0,.int .i64 0,.string ⟨#[]⟩,.int .i64 0,.int .i64 0,.int .i64 0,.int .i64 0,.int .i64 0] rfl)
 clear H0
 generalize (w.alloc (.cells #[.int .u8 0,.int .i64 0,.string ⟨#[]⟩,.int .i64 0,.int .i64 0,.int .i64 0,.int .i64 0,.int .i64 0] 97))=W4 at H3 ⊢
 refine cMg (cI s i _ (by omega) (by omega)) (fun _=>H3.out.below) fun w5 H7=>?_
 rw [HDR.out,HN.out]
 clear H3
 have F8:=H7.out.sees
 simp only [sees,af,ae,ag,Nat.add_zero,aa,Nat.reduceAdd] at F8
 obtain ⟨⟨⟨z0,fz0⟩,c00,c01,c02,c03,c04,c05,c06,c07,-⟩,⟨z1,c10,-⟩,-⟩:=F8
 have hQ:(i:Int)+(n:Int)=(q:Int):=by have:=HQ.out; omega
 go_wp2_with fail
 refine cMg (fl (s.extract i q) _ (by simp; omega) (by simp; omega) (by rw [HA.out]; exact HRUN.out)) (fun _=>H7.out.below) fun w9 H11=>?_
 rw [HA.out]
 clear z0 fz0 c00 c01 c02 c03 c04 c05 c06 c07 z1 c10 H7
 have F12:=H11.out.sees
 simp only [sees,af,ae,ag,Nat.add_zero,aa,Nat.reduceAdd] at F12
 obtain ⟨⟨⟨z0,fz0⟩,c00,c01,c02,c03,c04,c05,c06,c07,-⟩,⟨z1,c10,-⟩,-⟩:=F12
 by_cases hG:cA u []≤aD
 ·have HG:=keep hG
  rw [(b8 HG.out).1,(b8 HG.out).2]
  clear hG
  go_wp2_with fail
  exact e8_ [.int .i64 (n:Int)] H11 (fun W h=>by simp [results,results103,go_sem,h]) (fun h=>⟨by rw [gV HNE.out (by rw [HD.out,HP.out]; simp) (by rw [HU.out,HD.out,HP.out]; exact HG.out),HU.out,HD.out,HP.out,HN.out]; rfl,h⟩)
 have HG:=keep hG
 rw [(cF HG.out).1,(cF HG.out).2]
 clear hG
 go_wp2_with fail
 exact e8_ [.int .i64 0] H11 (fun W h=>by simp [results,results103,go_sem,h]) (fun h=>⟨by rw [fU (by rw [HU.out,HD.out,HP.out]; exact HG.out)]; rfl,h⟩)
open Go.RowKit
def bT (l:List UInt8):List UInt8:=if l.head?=some 45 then l.tail else l
def jI:List UInt8→Option (List UInt8)
 | []=>some []
 | b::p=>if b=46∧p≠[]∧p.all ah=true then some p else none
def ik:List UInt8:=[48,48,48,48,48]
def upD (p:List UInt8):Bool:=decide (53≤((p++ik).getD 4 0).toNat)
def it (w p:List UInt8):Nat:=cz (w++(p++ik).take 4)+if upD p then 1 else 0
def cx (l:List UInt8):Int×Int :=
 if (bT l).takeWhile ah=[] then (0,4) else match jI ((bT l).dropWhile ah) with
 | none=>(0,4)
 | some p=>if it ((bT l).takeWhile ah) p≤aD then ((if l.head?=some 45 then -(it ((bT l).takeWhile ah) p:Int) else it ((bT l).takeWhile ah) p),0) else (0,3)
theorem kL {l:List UInt8} (h:(bT l).takeWhile ah=[]):cx l=(0,4):=if_pos h
theorem mE {l:List UInt8} (h:jI ((bT l).dropWhile ah)=none):cx l=(0,4):=by
 unfold cx
 split
 ·rfl
 rw [h]
theorem pa {l p:List UInt8} (h0:(bT l).takeWhile ah≠[]) (h:jI ((bT l).dropWhile ah)=some p) :
  cx l=if it ((bT l).takeWhile ah) p≤aD then ((if l.head?=some 45 then -(it ((bT l).takeWhile ah) p:Int) else it ((bT l).takeWhile ah) p),0) else (0,3):=by
 unfold cx
 rw [if_neg h0,h]
theorem rT {z p:List UInt8} (h:jI z=some p):∀ b∈p,ah b=true:=by
 cases z with
 | nil=>cases h; intro b hb; cases hb
 | cons b q =>
  by_cases g:b=46∧q≠[]∧q.all ah=true
  ·have e:jI (b::q)=some q:=if_pos g
   rw [e] at h
   cases h
   exact List.all_eq_true.1 g.2.2
  have e:jI (b::q)=none:=if_neg g
  rw [e] at h; cases h
def xd (b:UInt8):Bool:=[37,38,41,42,43,44,45,47,60,61,62,94].contains b
def Sep (l:List UInt8):Prop:=∀ b r,l=b::r→xd b=true
theorem xe:∀ b:UInt8,xd b=true→au b=false∧b≠34∧b≠40∧b≠46∧b≠58∧ah b=false:=by
 intro b h
 unfold xd at h
 simp only [List.contains_eq_mem,List.mem_cons,List.not_mem_nil,or_false,decide_eq_true_eq] at h
 rcases h with rfl | rfl | rfl | rfl | rfl | rfl | rfl | rfl | rfl | rfl | rfl | rfl <;> decide
theorem Sep.stop {r:List UInt8} (h:Sep r):stops au r=true:=by
 cases r with
 | nil=>rfl
 | cons b r=>simp [stops,(xe b (h b r rfl)).1]
def Opn (l:List UInt8):Prop:=∀ b r,l=b::r→b≠61∧b≠62
section
open Go.RowKit Go.Proofs.Tryz
theorem pJ (B b:Nat) (bs:List Value) (s:ByteArray) (w:World) (h:Lib.IsBuilderF 119 5 B b bs w) (hlen:bs.length+s.size≤140737488355328) (hBw:B≤w.heap.size) :
  Calls prog 93 #[.pointer (some ⟨b,0,none⟩),.string s] w fun e w'=>e=.returned (.tuple #[.int .i64 s.size,.nilIface])∧(Lib.BuilderAtF 119 5 B b (.pointer (some ⟨b,0,none⟩)) (bs++Lib.strCells s) w'∧Below B w w') :=
 Any.Builder_WriteString_f { Tryz.lays155 with } Tryz.Builder_Extra_155 B b bs s w h hlen hBw
def Bld (B b:Nat) (l:List UInt8) (w:World):Prop:=Lib.IsBuilderF 119 5 B b (Lib.byteCells l) w
theorem gK {T e:TypeId} {B b:Nat} {p:Value} {bs:List Value} {w w':World} (h:Lib.BuilderAtF T e B b p bs w) (hb:Below w.heap.size w w'):Lib.BuilderAtF T e B b p bs w':=by
 have hlt:=h.lt
 obtain ⟨hB,v,hv,hown,hne⟩:=h
 exact ⟨hB,v,(hb.block b hlt).trans hv,hown.kept (row:=none) ⟨hb.os,hb.tape,hb.output,hb.size,fun k hk _=>hb.block k hk⟩ (by cases hv:v.ownBlock <;> simp),hne⟩
theorem Bld.below {B b:Nat} {l:List UInt8} {w w':World} (h:Bld B b l w) (hb:Below w.heap.size w w'):Bld B b l w' :=
 h.elim (fun h=>.inl (gK h hb)) fun h=>.inr (gK h hb)
theorem Bld.new (w:World):Bld w.heap.size w.heap.size [] (w.alloc (.cells #[.pointer none,.slice none 0 0] 119)) :=
 .inl ⟨Nat.le_refl _,.slice none 0 0,Array.getElem?_push_size,World.ownsRowF_nil _ _ _ _,by simp [Value.ownBlock]⟩
theorem Bld.write {B b:Nat} {l:List UInt8} {w:World} (h:Bld B b l w) (s:ByteArray) (hl:l.length+s.size≤140737488355328) (hBw:B≤w.heap.size) :
  Calls prog 93 #[.pointer (some ⟨b,0,none⟩),.string s] w fun e w'=>e=.returned (.tuple #[.int .i64 s.size,.nilIface])∧Bld B b (l++s.data.toList) w'∧Below B w w':=by
 refine (pJ B b _ s w h (by simpa [Lib.byteCells] using hl) hBw).mono ?_
 rintro e w' ⟨h1,h2,h3⟩
 refine ⟨h1,.inr ?_,h3⟩
 have e1:Lib.byteCells (l++s.data.toList)=Lib.byteCells l++Lib.strCells s:=by simp [Lib.byteCells,Lib.strCells]
 rw [e1]
 exact h2
theorem Bld.len {B b:Nat} {l:List UInt8} {w:World} (h:Bld B b l w) :
  Calls prog 102 #[.pointer (some ⟨b,0,none⟩)] w fun e w'=>e=.returned (.int .i64 l.length)∧w'=w:=by
 refine (Tryz.Builder_Len_f B b _ w h).mono ?_
 rintro e w' ⟨h1,h2⟩
 exact ⟨by rw [h1]; simp [Lib.byteCells],h2⟩
theorem Bld.text {B b:Nat} {l:List UInt8} {w:World} (h:Bld B b l w) (hBw:B≤w.heap.size) :
  Calls prog 94 #[.pointer (some ⟨b,0,none⟩)] w fun e w'=>e=.returned (.string ⟨l.toArray⟩)∧Bld B b l w'∧Below B w w' :=
 Tryz.Builder_String_any_f B b l w h hBw
end
section
open Go.RowKit Go.Proofs.Tryz
def aC (l:List UInt8):Int:=if 256<l.length then 5 else if l.all aj then 0 else 4
theorem fp (s:ByteArray) (w:World) (hs:s.size≤4611686018427387904) :
  Calls prog 71 #[.string s] w fun e w'=>e=.returned (.int .i64 (aC s.data.toList))∧Below w.heap.size w w':=by
 have hl:s.data.toList.length=s.size:=Array.length_toList
 obtain ⟨c,hc⟩:=ex (aC s.data.toList)
 rw [hc]
 unfold aC at hc
 rw [hl] at hc
 have HC:=keep hc
 clear hc hl
 go_enter func71,ntmps71
 by_cases h:256<s.size
 ·have h1:decide ((256:Int)<(s.size:Int))=true:=decide_eq_true (by omega)
  go_wp2
  go_ret
  have:=HC.out
  rw [if_pos h] at this
  exact ⟨by rw [this]; rfl,Below.refl _ _⟩
 have h1:decide ((256:Int)<(s.size:Int))=false:=decide_eq_false (by omega)
 go_wp2_with fail
 refine (dq s _ hs).mono ?_
 rintro e w1 ⟨rfl,hb⟩
 obtain ⟨p,hp⟩:=ex (s.data.toList.all aj)
 rw [hp]
 have HP:=keep hp
 have HB:=Lib.hid hb
 clear hp hb
 cases p with
 | true =>
  go_wp2
  go_ret
  have:=HC.out
  rw [if_neg h,if_pos HP.out] at this
  exact ⟨by rw [this]; rfl,HB.out⟩
 | false =>
  go_wp2
  go_ret
  have:=HC.out
  rw [if_neg h,if_neg (by rw [HP.out]; decide)] at this
  exact ⟨by rw [this]; rfl,HB.out⟩
end
section
open Go.RowKit Go.Proofs.Tryz
attribute [local go_sem] Oper.semAt_some
end
set_option maxRecDepth 100000
set_option maxHeartbeats 2000000
open Go.RowKit Go.Proofs.Tryz
open Go.Lib (decDigits)
theorem rj (a:Int) (w:World) (h1 : -9223372036854775808≤a) (h2:a≤9223372036854775807) :
  Calls prog 109 #[.int .i64 a] w fun e w'=>e=.returned (.int .u64 (a.natAbs:Nat))∧w'=w:=by
 by_cases ha:a<0
 ·have e1:IntKind.i64.wrap (a+1)=a+1:=Go.IntWalk.i64_in _ (by omega)
  have e2:IntKind.i64.wrap (-(a+1))=-(a+1):=Go.IntWalk.i64_in _ (by omega)
  have e3:IntKind.u64.wrap (-(a+1))=-(a+1):=Go.IntWalk.u64_in _ (by omega)
  have e4:IntKind.u64.wrap (-(a+1)+1)=(a.natAbs:Int):=by rw [Go.IntWalk.u64_in _ (by omega)]; omega
  go_enter func109,ntmps109
  go_wp2_with fail
  go_ret
  exact ⟨rfl,rfl⟩
 have e3:IntKind.u64.wrap a=(a.natAbs:Int):=by rw [Go.IntWalk.u64_in _ (by omega)]; omega
 go_enter func109,ntmps109
 go_wp2_with fail
 go_ret
 exact ⟨rfl,rfl⟩
theorem cL (n:Nat) (h:n / 10≠0):decDigits n=decDigits (n / 10)++[UInt8.ofNat (48+n % 10)]:=by
 rw [decDigits,dif_neg (by omega)]
theorem dV (n:Nat) (h:n / 10=0):decDigits n=[UInt8.ofNat (48+n % 10)]:=by
 rw [decDigits,dif_pos (by omega),Nat.mod_eq_of_lt (by omega)]
theorem dU (N:Nat) (w:World) (h:N<18446744073709551616) :
  Calls prog 110 #[.int .u64 (N:Int)] w fun e w'=>e=.returned (.string ⟨(decDigits N).toArray⟩)∧Below w.heap.size w w':=by
 have H1:=Lib.hid ((Ok.start w).var w.heap.size 194 (List.replicate 20 (.int .u8 0)) rfl)
 go_enter func110,ntmps110
 go_wp2_with fail
 go_loopw [0,4] (fun nv av wr=>∃ (n at_:Nat) (cs:List Value) (suf:List UInt8),nv=.int .u64 (n:Int)∧av=.int .i64 (at_:Int)∧at_≤20∧n<10 ^ at_∧n<18446744073709551616∧cs.length=20∧(n≠0∨at_=20)∧ao (suf.length=20 - at_∧(∀ j,j<suf.length→cs[at_+j]?=some (.int .u8 ((suf[j]?.getD 0).toNat:Int)))∧decDigits N=decDigits n++suf) ∧
  Hid (Ok w [af w.heap.size 194 cs] wr)) (fun nv _ _=>(intOf nv).toNat)
 case atStart=>exact ⟨N,20,List.replicate 20 (.int .u8 0),[],rfl,rfl,by omega,by omega,h,rfl,.inr rfl,keep ⟨rfl,by simp,by simp⟩,H1⟩
 case round =>
  obtain ⟨n,at_,cs,suf,rfl,rfl,hat,hp,hn,hcs,h0,HK,HR⟩:=hrel
  obtain ⟨wp,rfl⟩:∃ wp:World,wp=wr:=⟨_,rfl⟩
  have hat1:1≤at_:=by
   rcases Nat.eq_zero_or_pos at_ with h9 | h9
   ·subst h9; simp at hp; omega
   exact h9
  obtain ⟨q,rfl⟩:∃ q,at_=q+1:=⟨at_ - 1,by omega⟩
  have hblk:=HR.out.get (af w.heap.size 194 cs) (by simp)
  have hbw:w.heap.size<wp.heap.size:=Blk.lt hblk
  obtain ⟨old,hold⟩:∃ old,cs[q]?=some old:=⟨_,List.getElem?_eq_getElem (by omega)⟩
  have hcell:wp.cell? ⟨w.heap.size,q,none⟩=some old:=by rw [Blk.cell hblk]; simpa using hold
  have hfz:wp.frozen? ⟨w.heap.size,q,none⟩=false:=Blk.frozen hblk q
  have hwq:IntKind.i64.wrap (q:Int)=(q:Int):=Go.IntWalk.i64_in _ (by omega)
  have hq20:(q:Int)<20:=by omega
  obtain ⟨hk1,hk2,hk3⟩:=HK.out
  have hbyte:(UInt8.ofNat (48+n % 10)).toNat=48+n % 10:=by rw [UInt8.toNat_ofNat']; omega
  have HW2:=Lib.hid (HR.out.set_ (i:=q) (u:=.int .u8 (48+(n:Int) % 10)) (Nat.le_refl _) (by simp))
  have HK2:=keep (show (UInt8.ofNat (48+n % 10)::suf).length=20 - q∧(∀ j,j<(UInt8.ofNat (48+n % 10)::suf).length→(cs.set q (.int .u8 (48+(n:Int) % 10)))[q+j]?=some (.int .u8 ((((UInt8.ofNat (48+n % 10)::suf)[j]?.getD 0).toNat:Nat):Int))) from by
   refine ⟨by rw [List.length_cons,hk1]; omega,fun j hj => ?_⟩
   cases j with
   | zero =>
    rw [Nat.add_zero,List.getElem?_set_self (by omega)]
    simp only [List.getElem?_cons_zero,Option.getD_some,hbyte]
    congr 2
   | succ j =>
    rw [List.getElem?_set_ne (by omega),show q+(j+1)=q+1+j by omega,hk2 j (by simpa using hj)]
    simp)
  clear hblk hold hk2
  by_cases hz:n / 10=0
  ·have hzb:((n:Int) / 10 == 0)=true:=by rw [beq_iff_eq]; omega
   have HD:=keep (show decDigits N=UInt8.ofNat (48+n % 10)::suf by rw [hk3,dV n hz]; rfl)
   have hsl:∀ W:World,(Instr.sliceAt 194 (.pointer (some ⟨w.heap.size,0,none⟩)) (some (.int .i64 (q:Int))) none none).run prog W=.ok (.slice (some ⟨w.heap.size,q,none⟩) (20 - q) (20 - q)) W:=by
    intro W
    have harr:prog.arrayLen 194=20:=by kernel_rfl
    have hsz:(sizeOf (prog.elem 194)).run prog W=.ok 1 W:=by kernel_rfl
    rw [run_sliceAt_array_l W _ _ (by kernel_rfl) .i64 (q:Int) (by omega) (by rw [harr]; omega),hsz,harr]
    simp only [Result.andThen,slicedAt,Int.toNat_natCast,Nat.mul_one]
    rw [if_neg (by omega)]
    congr 3
    unfold Addr.add
    split <;> simp_all
   have hcv:(convert 42 9 (.slice (some ⟨w.heap.size,q,none⟩) (20 - q) (20 - q))).run prog (wp.setCell ⟨w.heap.size,q,none⟩ (.int .u8 (48+(n:Int) % 10)))=.ok (.string ⟨(decDigits N).toArray⟩) (wp.setCell ⟨w.heap.size,q,none⟩ (.int .u8 (48+(n:Int) % 10))):=by
    have hl:(decDigits N).length=20 - q:=by rw [HD.out]; exact HK2.out.1
    rw [show (20 - q)=(decDigits N).length from hl.symm]
    refine run_convert_bytes_back _ 42 9 5 ⟨w.heap.size,q,none⟩ _ (decDigits N) underlying42 underlying5 underlying9 fun j hj => ?_
    have hb2:=HW2.out.get (af w.heap.size 194 (cs.set q (.int .u8 (48+(n:Int) % 10)))) (by simp)
    have h9:=HK2.out.2 j (by rw [← HD.out]; exact hj)
    rw [show (Addr.add ⟨w.heap.size,q,none⟩ j)=⟨w.heap.size,q+j,none⟩ by unfold Addr.add; split <;> simp_all,Blk.cell hb2]
    simp only [List.getElem?_toArray]
    rw [h9]
    simp only [← HD.out,List.getElem?_eq_getElem hj,Option.getD_some]
   clear hk1 hk3 hbyte hz HK
   go_wp2_with fail
   go_ret
   exact ⟨rfl,HW2.out.bel⟩
  have hzb:((n:Int) / 10 == 0)=false:=by rw [beq_eq_false_iff_ne]; omega
  have HD:=keep (show decDigits N=decDigits (n / 10)++(UInt8.ofNat (48+n % 10)::suf) by rw [hk3,cL n hz,List.append_assoc]; rfl)
  have hpq:n / 10<10 ^ q:=by rw [Nat.pow_succ] at hp; omega
  clear hk1 hk3 hbyte HK
  go_wp2_with fail
  go_roundw
  case rel=>exact ⟨n / 10,q,cs.set q (.int .u8 (48+(n:Int) % 10)),UInt8.ofNat (48+n % 10)::suf,by simp,rfl,by omega,hpq,by omega,by simpa using hcs,.inl hz,keep ⟨HK2.out.1,HK2.out.2,HD.out⟩,HW2⟩
  case measure=>simp [intOf]; omega
theorem dD (n:Nat) (h:n<18446744073709551616):(decDigits n).length≤20:=by
 have key:∀ (k n:Nat),n<10 ^ (k+1)→(decDigits n).length≤k+1:=by
  intro k
  induction k with
  | zero=>intro n hn; rw [dV n (by omega)]; simp
  | succ k ih =>
   intro n hn
   by_cases hz:n / 10=0
   ·rw [dV n hz]; simp
   rw [cL n hz,List.length_append]
   have:=ih (n / 10) (by rw [Nat.pow_succ] at hn; omega)
   simp
   exact this
 exact key 19 n (by omega)
theorem an.grew {w0 w w':World} {l m:List UInt8} {v v':Value} (h:an w0 [] 5 1 v l.length (ax l) w) (hown:w'.ownsRow w0.heap.size 5 1 v' (l.length+m.length) (ax l++ax m)) (hg:w.grownBy w' v.ownBlock):an w0 [] 5 1 v' (l++m).length (ax (l++m)) w' :=
 ⟨⟨h.ok.bel.grown hg h.ok.bel.size (fun k hk=>(h.own.lt k hk).1),by simp⟩,by rw [List.length_append,show ax (l++m)=ax l++ax m by simp [ax]]; exact hown,by simp⟩
open Go.RowKit
