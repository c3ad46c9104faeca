/- The contract of the lexer's number. -/
import Derived.Test.YthdmpajkacmkdaaGreatDoorGLexD
import Derived.Test.YthdmpajkacmkdaaGreatDoorGTg
namespace Go.Proofs.YthdmpajkacmkdaaGreatDoor
set_option maxRecDepth 100000
set_option maxHeartbeats 4000000
open Go.RowKit Go.Proofs.Tryz
def tkA (t:Tk):Value:=.agg #[.int .u8 t.kind,.int .i64 t.num,.string ⟨t.text.toArray⟩,.int .i64 t.r.c1,.int .i64 t.r.r1,.int .i64 t.r.c2,.int .i64 t.r.r2,.int .i64 (t.at_:Nat)]
def Tk.zero:Tk:=⟨0,0,[],R4.zero,0⟩
def hH:Option (Tk×Nat)→Value
 | none=>.tuple #[tkA Tk.zero,.int .i64 0]
 | some (t,n)=>.tuple #[tkA t,.int .i64 (n:Int)]
theorem kP (s:ByteArray) (j:Int) (i:Nat) (w:World) (hj:j=(i:Int)) (hi:i≤s.size) (hs:s.size≤4611686018427387904) :
  Calls prog 99 #[.string s,.int .i64 j,.func (.func 100) #[] #[]] w fun e w'=>e=.returned (.int .i64 ((cV s i).length:Int))∧Below w.heap.size w w':=by
 subst hj
 exact du s i w hi hs
def aV (s:ByteArray) (i:Nat):List UInt8:=s.data.toList.drop i
def iK (l:List UInt8) (i:Nat):Option (Tk×Nat):=(gx l).map fun x=>(⟨1,x.1,[],R4.zero,i⟩,x.2)
theorem fH {w:World} {rb:Nat} {s:ByteArray} (hr:w.cell? ⟨rb,0,none⟩=some (.string s)):Ok w [aa rb 0 [.string s]] w :=
 (Ok.start w).add (aa rb 0 [.string s]) ⟨World.block_lt_of_cell? w _ hr,hr,trivial⟩
theorem sd {l:List UInt8} {i:Nat} (h:l.takeWhile al=[]):iK l i=none:=by
 unfold iK gx
 simp [h]
theorem vB {l:List UInt8} {i:Nat} (h:4<(bL (l.dropWhile al)).length):iK l i=none:=by
 unfold iK gx
 simp [h]
theorem iA {l:List UInt8} {i:Nat} (h:¬ df (l.takeWhile al) (bL (l.dropWhile al))≤bF):iK l i=none:=by
 unfold iK gx
 unfold bF at h
 rw [if_pos (by right; right; omega)]
 rfl
theorem jC {l:List UInt8} {i:Nat} (h0:l.takeWhile al≠[]) (h1:(bL (l.dropWhile al)).length≤4) (h2:df (l.takeWhile al) (bL (l.dropWhile al))≤bF) :
  iK l i=some (⟨1,(df (l.takeWhile al) (bL (l.dropWhile al)):Int),[],R4.zero,i⟩,(l.takeWhile al).length+if bL (l.dropWhile al)=[] then 0 else (bL (l.dropWhile al)).length+1):=by
 unfold iK gx
 unfold bF at h2
 simp only []
 rw [if_neg (by rintro (h | h | h) <;> first | exact h0 h | omega)]
 rfl
theorem mC (s:ByteArray) (rb i:Nat) (w:World) (hs:s.size≤300) (hi:i<s.size) (hr:w.cell? ⟨rb,0,none⟩=some (.string s)) :
  Calls prog 67 #[.pointer (some ⟨rb,0,none⟩),.int .i64 (i:Int)] w fun e w'=>e=.returned (hH (iK (aV s i) i))∧Below w.heap.size w w':=by
 have hsl:s.data.toList.length=s.size:=by rw [Array.length_toList]; rfl
 obtain ⟨hl,hrun,hstop⟩:=dB al (aV s i)
 have hrl:(aV s i).length+i=s.size:=by unfold aV; rw [List.length_drop]; omega
 have hdr:cV s i=(aV s i).takeWhile al:=rfl
 obtain ⟨u,hu⟩:=ex ((aV s i).takeWhile al)
 obtain ⟨d,hd⟩:=ex ((aV s i).dropWhile al)
 rw [hu] at hl hrun hdr
 rw [hd] at hl hstop
 have hlen:u.length+d.length+i=s.size:=by rw [hl,List.length_append] at hrl; omega
 obtain ⟨n,hn⟩:=ex (u.length)
 rw [hn] at hlen
 have hh:=fH hr
 have H0:=Lib.hid hh
 have HDR:=keep hdr
 have HN:=keep hn
 have HSL:=keep hsl
 have HU:=keep hu
 have HD:=keep hd
 have HL:=keep hl
 have HRUN:=keep hrun
 have HST:=keep hstop
 clear hh hdr hsl hrl hu hd hl hrun hstop
 by_cases h0:n=0
 ·subst h0
  clear hn
  have F1:=H0.out.sees
  simp only [sees,aa,ag,Nat.add_zero] at F1
  obtain ⟨⟨z0,c00,-⟩,-⟩:=F1
  go_enter func67,ntmps67
  go_wp2_with fail
  have y2:=z0
  clear z0 c00
  have H3:=Lib.hid (H0.out.var w.heap.size 66 [.int .u8 0,.int .i64 0,.string ⟨#[]⟩,.int .i64 0,.int .i64 0,.int .i64 0,.int .i64 0,.int .i64 0] rfl)
  clear H0
  generalize (w.alloc (.cells #[.int .u8 0,.int .i64 0,.string ⟨#[]⟩,.int .i64 0,.int .i64 0,.int .i64 0,.int .i64 0,.int .i64 0] 66))=W4 at H3 ⊢
  refine cMg (du s i _ (by omega) (by omega)) (fun _=>H3.out.below) fun w5 H7=>?_
  rw [HDR.out,HN.out]
  clear H3
  have F8:=H7.out.sees
  simp only [sees,ah,aa,ag,Nat.add_zero,ac,Nat.reduceAdd] at F8
  obtain ⟨⟨⟨z0,fz0⟩,c00,c01,c02,c03,c04,c05,c06,c07,-⟩,⟨z1,c10,-⟩,-⟩:=F8
  go_wp2_with fail
  have hK:=H7.out.get (ah (w.heap.size) 66 [.int .u8 0,.int .i64 0,.string ⟨#[]⟩,.int .i64 0,.int .i64 0,.int .i64 0,.int .i64 0,.int .i64 0]) (by simp)
  have hB:=H7.out.bel
  have hE:=(((((((((show Blk w5 (w.heap.size) 66 _ from hK).set_ 0 (.int .u8 0)).set_ 1 (.int .i64 0)).set_ 2 (.string ⟨#[]⟩)).set_ 3 (.int .i64 0)).set_ 4 (.int .i64 0)).set_ 5 (.int .i64 0)).set_ 6 (.int .i64 0)).set_ 7 (.int .i64 0))
  refine bodyPost_ret (v:=.tuple #[.agg #[.int .u8 0,.int .i64 0,.string ⟨#[]⟩,.int .i64 0,.int .i64 0,.int .i64 0,.int .i64 0,.int .i64 0],.int .i64 0]) (by simp [results,results67,go_sem,hE.cell]) rfl ⟨by rw [sd (by rw [HU.out]; exact List.length_eq_zero_iff.1 HN.out)]; rfl,(sC (sC (sC (sC (sC (sC (sC (sC hB _) _) _) _) _) _) _) _)⟩
 have hn0:¬ (n:Int)=0:=by omega
 have hul:1≤n:=by omega
 have HNE:=keep (show (aV s i).takeWhile al≠[] from by rw [HU.out]; intro e; have:=HN.out; rw [e] at this; simp at this; omega)
 obtain ⟨q,hq⟩:=ex (i+n)
 have hqs:q≤s.size:=by omega
 have hA:(s.extract i q).data.toList=u:=by
  rw [Lib.extract_data,← hq,Nat.add_sub_cancel_left,← HN.out]
  show (aV s i).take u.length=u
  rw [HL.out,List.take_left]
 have hQ:(i:Int)+(n:Int)=(q:Int):=by omega
 have hdq:s.data.toList.drop q=d:=by
  have h9:s.data.toList.drop q=(aV s i).drop n:=by unfold aV; rw [List.drop_drop,hq]
  rw [h9,HL.out,← HN.out,List.drop_left]
 have HDQ:=keep hdq
 have HA:=keep hA
 have HQ:=keep hq
 have hiq:(i:Int)≤q:=by omega
 clear hn h0 hdq hA hq hQ
 by_cases h1:(q:Int)+1<s.size
 ·have hq1:q<s.size:=by omega
  have hq2:q+1<s.size:=by omega
  have hdd : d = s[q]'hq1 :: s[q + 1]'hq2 :: s.data.toList.drop (q + 2):=by
   rw [← HDQ.out,List.drop_eq_getElem_cons (by rw [HSL.out]; exact hq1),List.drop_eq_getElem_cons (by rw [HSL.out]; exact hq2)]
   rfl
  have ht1:((q:Int)+1).toNat=q+1:=by omega
  by_cases h2 : ((s[q]'hq1).toNat : Int) = 46
  ·have h46 : s[q]'hq1 = 46:=by rw [← UInt8.toNat_inj]; show _ = 46; omega
   rw [h46] at hdd
   cases h3 : al (s[q + 1]'hq2)
   ·have HP:=keep (show bL d=[] by rw [hdd,places_cons,if_pos rfl,List.takeWhile_cons,if_neg (by rw [h3]; decide)])
    have H3:=keep h3
    have h2' : (((s[q]'hq1).toNat : Int) == 46) = true:=by rw [h2]; rfl
    clear h3 hdd h46 h2
    have F1:=H0.out.sees
    simp only [sees,aa,ag,Nat.add_zero] at F1
    obtain ⟨⟨z0,c00,-⟩,-⟩:=F1
    go_enter func67,ntmps67
    go_wp2_with fail
    have y2:=z0
    clear z0 c00
    have H3:=Lib.hid (H0.out.var w.heap.size 66 [.int .u8 0,.int .i64 0,.string ⟨#[]⟩,.int .i64 0,.int .i64 0,.int .i64 0,.int .i64 0,.int .i64 0] rfl)
    clear H0
    generalize (w.alloc (.cells #[.int .u8 0,.int .i64 0,.string ⟨#[]⟩,.int .i64 0,.int .i64 0,.int .i64 0,.int .i64 0,.int .i64 0] 66))=W4 at H3 ⊢
    refine cMg (du s i _ (by omega) (by omega)) (fun _=>H3.out.below) fun w5 H7=>?_
    rw [HDR.out,HN.out]
    clear H3
    have F8:=H7.out.sees
    simp only [sees,ah,aa,ag,Nat.add_zero,ac,Nat.reduceAdd] at F8
    obtain ⟨⟨⟨z0,fz0⟩,c00,c01,c02,c03,c04,c05,c06,c07,-⟩,⟨z1,c10,-⟩,-⟩:=F8
    have hQ:(i:Int)+(n:Int)=(q:Int):=by have:=HQ.out; omega
    go_wp2_with fail
    refine (fE _ _).mono ?_
    rintro e w9 ⟨rfl,hw9⟩
    subst hw9
    rw [H3.out]
    go_wp2_with fail
    refine cMg (gH (s.extract i q) _ (by simp; omega) (by simp; omega) (by rw [HA.out]; exact HRUN.out)) (fun _=>H7.out.below) fun w9 H11=>?_
    rw [HA.out]
    clear z0 fz0 c00 c01 c02 c03 c04 c05 c06 c07 z1 c10 H7
    have F12:=H11.out.sees
    simp only [sees,ah,aa,ag,Nat.add_zero,ac,Nat.reduceAdd] at F12
    obtain ⟨⟨⟨z0,fz0⟩,c00,c01,c02,c03,c04,c05,c06,c07,-⟩,⟨z1,c10,-⟩,-⟩:=F12
    by_cases hG:df u []≤bF
    ·have HG:=keep hG
     rw [(cB HG.out).1,(cB HG.out).2]
     clear hG
     go_wp2_with fail
     have hK:=H11.out.get (ah (w.heap.size) 66 [.int .u8 0,.int .i64 0,.string ⟨#[]⟩,.int .i64 0,.int .i64 0,.int .i64 0,.int .i64 0,.int .i64 0]) (by simp)
     have hB:=H11.out.bel
     have hE:=(((((((((show Blk w9 (w.heap.size) 66 _ from hK).set_ 0 (.int .u8 1)).set_ 1 (.int .i64 (df u []:Int))).set_ 2 (.string ⟨#[]⟩)).set_ 3 (.int .i64 0)).set_ 4 (.int .i64 0)).set_ 5 (.int .i64 0)).set_ 6 (.int .i64 0)).set_ 7 (.int .i64 (i:Int)))
     refine bodyPost_ret (v:=.tuple #[.agg #[.int .u8 1,.int .i64 (df u []:Int),.string ⟨#[]⟩,.int .i64 0,.int .i64 0,.int .i64 0,.int .i64 0,.int .i64 (i:Int)],.int .i64 (n:Int)]) (by simp [results,results67,go_sem,hE.cell]) rfl ⟨by rw [jC HNE.out (by rw [HD.out,HP.out]; simp) (by rw [HU.out,HD.out,HP.out]; exact HG.out),HU.out,HD.out,HP.out,HN.out]; rfl,(sC (sC (sC (sC (sC (sC (sC (sC hB _) _) _) _) _) _) _) _)⟩
    have HG:=keep hG
    rw [(dl HG.out).1,(dl HG.out).2]
    clear hG
    go_wp2_with fail
    have hK:=H11.out.get (ah (w.heap.size) 66 [.int .u8 0,.int .i64 0,.string ⟨#[]⟩,.int .i64 0,.int .i64 0,.int .i64 0,.int .i64 0,.int .i64 0]) (by simp)
    have hB:=H11.out.bel
    have hE:=(((((((((show Blk w9 (w.heap.size) 66 _ from hK).set_ 0 (.int .u8 0)).set_ 1 (.int .i64 0)).set_ 2 (.string ⟨#[]⟩)).set_ 3 (.int .i64 0)).set_ 4 (.int .i64 0)).set_ 5 (.int .i64 0)).set_ 6 (.int .i64 0)).set_ 7 (.int .i64 0))
    refine bodyPost_ret (v:=.tuple #[.agg #[.int .u8 0,.int .i64 0,.string ⟨#[]⟩,.int .i64 0,.int .i64 0,.int .i64 0,.int .i64 0,.int .i64 0],.int .i64 0]) (by simp [results,results67,go_sem,hE.cell]) rfl ⟨by rw [iA (by rw [HU.out,HD.out,HP.out]; exact HG.out)]; rfl,(sC (sC (sC (sC (sC (sC (sC (sC hB _) _) _) _) _) _) _) _)⟩
   obtain ⟨v,hv⟩:=ex (cV s (q+1))
   obtain ⟨hl5,hvd,hst5⟩:=dB al (s.data.toList.drop (q+1))
   have hv2:(s.data.toList.drop (q+1)).takeWhile al=v:=hv
   rw [hv2] at hl5 hvd
   generalize (s.data.toList.drop (q+1)).dropWhile al=d5 at hl5 hst5
   have hdc:d=46::s.data.toList.drop (q+1):=by
    rw [hdd]
    rw [show s.data.toList.drop (q + 1) = s[q + 1]'hq2 :: s.data.toList.drop (q + 2) from List.drop_eq_getElem_cons (by rw [HSL.out]; exact hq2)]
   have HP:=keep (show bL d=v by rw [hdc,places_cons,if_pos rfl,hv2])
   have hv0:v≠[]:=by
    intro e
    rw [← hv2,List.drop_eq_getElem_cons (by rw [HSL.out]; exact hq2),List.takeWhile_cons,if_pos (show al s.data.toList[q+1]=true from h3)] at e
    simp at e
   obtain ⟨k,hk⟩:=ex (v.length)
   have hk1:1≤k:=by
    rw [← hk]
    cases v with
    | nil=>exact absurd rfl hv0
    | cons=>simp
   have hlk:q+1+k≤s.size:=by
    have h9:=congrArg List.length hl5
    rw [List.length_append,List.length_drop,HSL.out,hk] at h9
    omega
   obtain ⟨z,hz⟩:=ex (q+1+k)
   have hzs:z≤s.size:=by omega
   have hiz:(i:Int)≤z:=by omega
   have hB:(s.extract i z).data.toList=u++46::v:=by
    rw [Lib.extract_data]
    show (aV s i).take (z - i)=_
    rw [HL.out,hdc,hl5,List.take_append,List.take_of_length_le (by rw [HN.out]; have:=HQ.out; omega),HN.out,show z - i - n=k+1 by have:=HQ.out; omega,List.take_succ_cons,← hk,List.take_left]
   have HV0:=keep hv0
   have HV:=keep hv
   have HK:=keep hk
   have HB:=keep hB
   have HVD:=keep hvd
   have H3:=keep h3
   have HZ:=keep hz
   have h2' : (((s[q]'hq1).toNat : Int) == 46) = true:=by rw [h2]; rfl
   have hq3:((q:Int)+1)=((q+1:Nat):Int):=by omega
   have HQ3:=keep hq3
   clear h3 hdd h46 h2 hv hl5 hvd hst5 hv2 hdc hv0 hk hz hB hq3
   by_cases h5:4<k
   ·have h5i:(k:Int)>4:=by omega
    have F1:=H0.out.sees
    simp only [sees,aa,ag,Nat.add_zero] at F1
    obtain ⟨⟨z0,c00,-⟩,-⟩:=F1
    go_enter func67,ntmps67
    go_wp2_with fail
    have y2:=z0
    clear z0 c00
    have H3:=Lib.hid (H0.out.var w.heap.size 66 [.int .u8 0,.int .i64 0,.string ⟨#[]⟩,.int .i64 0,.int .i64 0,.int .i64 0,.int .i64 0,.int .i64 0] rfl)
    clear H0
    generalize (w.alloc (.cells #[.int .u8 0,.int .i64 0,.string ⟨#[]⟩,.int .i64 0,.int .i64 0,.int .i64 0,.int .i64 0,.int .i64 0] 66))=W4 at H3 ⊢
    refine cMg (du s i _ (by omega) (by omega)) (fun _=>H3.out.below) fun w5 H7=>?_
    rw [HDR.out,HN.out]
    clear H3
    have F8:=H7.out.sees
    simp only [sees,ah,aa,ag,Nat.add_zero,ac,Nat.reduceAdd] at F8
    obtain ⟨⟨⟨z0,fz0⟩,c00,c01,c02,c03,c04,c05,c06,c07,-⟩,⟨z1,c10,-⟩,-⟩:=F8
    have hQ:(i:Int)+(n:Int)=(q:Int):=by have:=HQ.out; omega
    go_wp2_with fail
    refine (fE _ _).mono ?_
    rintro e w9 ⟨rfl,hw9⟩
    subst hw9
    rw [H3.out]
    go_wp2_with fail
    refine cMg (kP s _ (q+1) _ HQ3.out (by omega) (by omega)) (fun _=>H7.out.below) fun w9 H11=>?_
    rw [HV.out,HK.out]
    clear z0 fz0 c00 c01 c02 c03 c04 c05 c06 c07 z1 c10 H7
    have F12:=H11.out.sees
    simp only [sees,ah,aa,ag,Nat.add_zero,ac,Nat.reduceAdd] at F12
    obtain ⟨⟨⟨z0,fz0⟩,c00,c01,c02,c03,c04,c05,c06,c07,-⟩,⟨z1,c10,-⟩,-⟩:=F12
    go_wp2_with fail
    have hK:=H11.out.get (ah (w.heap.size) 66 [.int .u8 0,.int .i64 0,.string ⟨#[]⟩,.int .i64 0,.int .i64 0,.int .i64 0,.int .i64 0,.int .i64 0]) (by simp)
    have hB:=H11.out.bel
    have hE:=(((((((((show Blk w9 (w.heap.size) 66 _ from hK).set_ 0 (.int .u8 0)).set_ 1 (.int .i64 0)).set_ 2 (.string ⟨#[]⟩)).set_ 3 (.int .i64 0)).set_ 4 (.int .i64 0)).set_ 5 (.int .i64 0)).set_ 6 (.int .i64 0)).set_ 7 (.int .i64 0))
    refine bodyPost_ret (v:=.tuple #[.agg #[.int .u8 0,.int .i64 0,.string ⟨#[]⟩,.int .i64 0,.int .i64 0,.int .i64 0,.int .i64 0,.int .i64 0],.int .i64 0]) (by simp [results,results67,go_sem,hE.cell]) rfl ⟨by rw [vB (by rw [HD.out,HP.out,HK.out]; exact h5)]; rfl,(sC (sC (sC (sC (sC (sC (sC (sC hB _) _) _) _) _) _) _) _)⟩
   have h5i:¬ (k:Int)>4:=by omega
   have F1:=H0.out.sees
   simp only [sees,aa,ag,Nat.add_zero] at F1
   obtain ⟨⟨z0,c00,-⟩,-⟩:=F1
   go_enter func67,ntmps67
   go_wp2_with fail
   have y2:=z0
   clear z0 c00
   have H3:=Lib.hid (H0.out.var w.heap.size 66 [.int .u8 0,.int .i64 0,.string ⟨#[]⟩,.int .i64 0,.int .i64 0,.int .i64 0,.int .i64 0,.int .i64 0] rfl)
   clear H0
   generalize (w.alloc (.cells #[.int .u8 0,.int .i64 0,.string ⟨#[]⟩,.int .i64 0,.int .i64 0,.int .i64 0,.int .i64 0,.int .i64 0] 66))=W4 at H3 ⊢
   refine cMg (du s i _ (by omega) (by omega)) (fun _=>H3.out.below) fun w5 H7=>?_
   rw [HDR.out,HN.out]
   clear H3
   have F8:=H7.out.sees
   simp only [sees,ah,aa,ag,Nat.add_zero,ac,Nat.reduceAdd] at F8
   obtain ⟨⟨⟨z0,fz0⟩,c00,c01,c02,c03,c04,c05,c06,c07,-⟩,⟨z1,c10,-⟩,-⟩:=F8
   have hQ:(i:Int)+(n:Int)=(q:Int):=by have:=HQ.out; omega
   go_wp2_with fail
   refine (fE _ _).mono ?_
   rintro e w9 ⟨rfl,hw9⟩
   subst hw9
   rw [H3.out]
   go_wp2_with fail
   refine cMg (kP s _ (q+1) _ HQ3.out (by omega) (by omega)) (fun _=>H7.out.below) fun w9 H11=>?_
   rw [HV.out,HK.out]
   clear z0 fz0 c00 c01 c02 c03 c04 c05 c06 c07 z1 c10 H7
   have F12:=H11.out.sees
   simp only [sees,ah,aa,ag,Nat.add_zero,ac,Nat.reduceAdd] at F12
   obtain ⟨⟨⟨z0,fz0⟩,c00,c01,c02,c03,c04,c05,c06,c07,-⟩,⟨z1,c10,-⟩,-⟩:=F12
   have hQ2:(n:Int)+(1+(k:Int))=((n+(1+k):Nat):Int):=by omega
   have hQ3:(i:Int)+((n+(1+k):Nat):Int)=(z:Int):=by have:=HQ.out; have:=HZ.out; omega
   obtain ⟨nn,hnn⟩:=ex (n+(1+k))
   rw [hnn] at hQ2 hQ3
   have hres:df u v≤bF→iK (aV s i) i=some (⟨1,(df u v:Int),[],R4.zero,i⟩,nn):=by
    intro hG
    rw [jC HNE.out (by rw [HD.out,HP.out,HK.out]; omega) (by rw [HU.out,HD.out,HP.out]; exact hG),HU.out,HD.out,HP.out,HN.out,if_neg HV0.out,HK.out]
    rw [Nat.add_comm k 1,hnn]
   have HRES:=keep hres
   clear hres
   clear hnn
   go_wp2_with fail
   refine cMg (ou (s.extract i z) u v _ (by simp; omega) HB.out HRUN.out HVD.out (by rw [← HU.out]; exact HNE.out) HV0.out (by rw [HK.out]; omega)) (fun _=>H11.out.below) fun w13 H15=>?_
   clear z0 fz0 c00 c01 c02 c03 c04 c05 c06 c07 z1 c10 H11
   have F16:=H15.out.sees
   simp only [sees,ah,aa,ag,Nat.add_zero,ac,Nat.reduceAdd] at F16
   obtain ⟨⟨⟨z0,fz0⟩,c00,c01,c02,c03,c04,c05,c06,c07,-⟩,⟨z1,c10,-⟩,-⟩:=F16
   by_cases hG:df u v≤bF
   ·have HG:=keep hG
    rw [(cB HG.out).1,(cB HG.out).2]
    clear hG
    go_wp2_with fail
    have hK:=H15.out.get (ah (w.heap.size) 66 [.int .u8 0,.int .i64 0,.string ⟨#[]⟩,.int .i64 0,.int .i64 0,.int .i64 0,.int .i64 0,.int .i64 0]) (by simp)
    have hB:=H15.out.bel
    have hE:=(((((((((show Blk w13 (w.heap.size) 66 _ from hK).set_ 0 (.int .u8 1)).set_ 1 (.int .i64 (df u v:Int))).set_ 2 (.string ⟨#[]⟩)).set_ 3 (.int .i64 0)).set_ 4 (.int .i64 0)).set_ 5 (.int .i64 0)).set_ 6 (.int .i64 0)).set_ 7 (.int .i64 (i:Int)))
    refine bodyPost_ret (v:=.tuple #[.agg #[.int .u8 1,.int .i64 (df u v:Int),.string ⟨#[]⟩,.int .i64 0,.int .i64 0,.int .i64 0,.int .i64 0,.int .i64 (i:Int)],.int .i64 (nn:Int)]) (by simp [results,results67,go_sem,hE.cell]) rfl ⟨by rw [HRES.out HG.out]; rfl,(sC (sC (sC (sC (sC (sC (sC (sC hB _) _) _) _) _) _) _) _)⟩
   have HG:=keep hG
   rw [(dl HG.out).1,(dl HG.out).2]
   clear hG
   go_wp2_with fail
   have hK:=H15.out.get (ah (w.heap.size) 66 [.int .u8 0,.int .i64 0,.string ⟨#[]⟩,.int .i64 0,.int .i64 0,.int .i64 0,.int .i64 0,.int .i64 0]) (by simp)
   have hB:=H15.out.bel
   have hE:=(((((((((show Blk w13 (w.heap.size) 66 _ from hK).set_ 0 (.int .u8 0)).set_ 1 (.int .i64 0)).set_ 2 (.string ⟨#[]⟩)).set_ 3 (.int .i64 0)).set_ 4 (.int .i64 0)).set_ 5 (.int .i64 0)).set_ 6 (.int .i64 0)).set_ 7 (.int .i64 0))
   refine bodyPost_ret (v:=.tuple #[.agg #[.int .u8 0,.int .i64 0,.string ⟨#[]⟩,.int .i64 0,.int .i64 0,.int .i64 0,.int .i64 0,.int .i64 0],.int .i64 0]) (by simp [results,results67,go_sem,hE.cell]) rfl ⟨by rw [iA (by rw [HU.out,HD.out,HP.out]; exact HG.out)]; rfl,(sC (sC (sC (sC (sC (sC (sC (sC hB _) _) _) _) _) _) _) _)⟩
  have h46 : s[q]'hq1 ≠ 46:=by intro h; rw [h] at h2; exact h2 rfl
  have HP:=keep (show bL d=[] by rw [hdd,places_cons,if_neg h46])
  have h2' : (((s[q]'hq1).toNat : Int) == 46) = false:=by simpa using h2
  clear hdd h46 h2
  have F1:=H0.out.sees
  simp only [sees,aa,ag,Nat.add_zero] at F1
  obtain ⟨⟨z0,c00,-⟩,-⟩:=F1
  go_enter func67,ntmps67
  go_wp2_with fail
  have y2:=z0
  clear z0 c00
  have H3:=Lib.hid (H0.out.var w.heap.size 66 [.int .u8 0,.int .i64 0,.string ⟨#[]⟩,.int .i64 0,.int .i64 0,.int .i64 0,.int .i64 0,.int .i64 0] rfl)
  clear H0
  generalize (w.alloc (.cells #[.int .u8 0,.int .i64 0,.string ⟨#[]⟩,.int .i64 0,.int .i64 0,.int .i64 0,.int .i64 0,.int .i64 0] 66))=W4 at H3 ⊢
  refine cMg (du s i _ (by omega) (by omega)) (fun _=>H3.out.below) fun w5 H7=>?_
  rw [HDR.out,HN.out]
  clear H3
  have F8:=H7.out.sees
  simp only [sees,ah,aa,ag,Nat.add_zero,ac,Nat.reduceAdd] at F8
  obtain ⟨⟨⟨z0,fz0⟩,c00,c01,c02,c03,c04,c05,c06,c07,-⟩,⟨z1,c10,-⟩,-⟩:=F8
  have hQ:(i:Int)+(n:Int)=(q:Int):=by have:=HQ.out; omega
  go_wp2_with fail
  refine cMg (gH (s.extract i q) _ (by simp; omega) (by simp; omega) (by rw [HA.out]; exact HRUN.out)) (fun _=>H7.out.below) fun w9 H11=>?_
  rw [HA.out]
  clear z0 fz0 c00 c01 c02 c03 c04 c05 c06 c07 z1 c10 H7
  have F12:=H11.out.sees
  simp only [sees,ah,aa,ag,Nat.add_zero,ac,Nat.reduceAdd] at F12
  obtain ⟨⟨⟨z0,fz0⟩,c00,c01,c02,c03,c04,c05,c06,c07,-⟩,⟨z1,c10,-⟩,-⟩:=F12
  by_cases hG:df u []≤bF
  ·have HG:=keep hG
   rw [(cB HG.out).1,(cB HG.out).2]
   clear hG
   go_wp2_with fail
   have hK:=H11.out.get (ah (w.heap.size) 66 [.int .u8 0,.int .i64 0,.string ⟨#[]⟩,.int .i64 0,.int .i64 0,.int .i64 0,.int .i64 0,.int .i64 0]) (by simp)
   have hB:=H11.out.bel
   have hE:=(((((((((show Blk w9 (w.heap.size) 66 _ from hK).set_ 0 (.int .u8 1)).set_ 1 (.int .i64 (df u []:Int))).set_ 2 (.string ⟨#[]⟩)).set_ 3 (.int .i64 0)).set_ 4 (.int .i64 0)).set_ 5 (.int .i64 0)).set_ 6 (.int .i64 0)).set_ 7 (.int .i64 (i:Int)))
   refine bodyPost_ret (v:=.tuple #[.agg #[.int .u8 1,.int .i64 (df u []:Int),.string ⟨#[]⟩,.int .i64 0,.int .i64 0,.int .i64 0,.int .i64 0,.int .i64 (i:Int)],.int .i64 (n:Int)]) (by simp [results,results67,go_sem,hE.cell]) rfl ⟨by rw [jC HNE.out (by rw [HD.out,HP.out]; simp) (by rw [HU.out,HD.out,HP.out]; exact HG.out),HU.out,HD.out,HP.out,HN.out]; rfl,(sC (sC (sC (sC (sC (sC (sC (sC hB _) _) _) _) _) _) _) _)⟩
  have HG:=keep hG
  rw [(dl HG.out).1,(dl HG.out).2]
  clear hG
  go_wp2_with fail
  have hK:=H11.out.get (ah (w.heap.size) 66 [.int .u8 0,.int .i64 0,.string ⟨#[]⟩,.int .i64 0,.int .i64 0,.int .i64 0,.int .i64 0,.int .i64 0]) (by simp)
  have hB:=H11.out.bel
  have hE:=(((((((((show Blk w9 (w.heap.size) 66 _ from hK).set_ 0 (.int .u8 0)).set_ 1 (.int .i64 0)).set_ 2 (.string ⟨#[]⟩)).set_ 3 (.int .i64 0)).set_ 4 (.int .i64 0)).set_ 5 (.int .i64 0)).set_ 6 (.int .i64 0)).set_ 7 (.int .i64 0))
  refine bodyPost_ret (v:=.tuple #[.agg #[.int .u8 0,.int .i64 0,.string ⟨#[]⟩,.int .i64 0,.int .i64 0,.int .i64 0,.int .i64 0,.int .i64 0],.int .i64 0]) (by simp [results,results67,go_sem,hE.cell]) rfl ⟨by rw [iA (by rw [HU.out,HD.out,HP.out]; exact HG.out)]; rfl,(sC (sC (sC (sC (sC (sC (sC (sC hB _) _) _) _) _) _) _) _)⟩
 have HP:=keep (show bL d=[] by
  have h9:d.length≤1:=by have:=HQ.out; omega
  match d,h9 with
  | [],_=>rfl
  | [b],_=>rw [places_cons]; split <;> rfl)
 have F1:=H0.out.sees
 simp only [sees,aa,ag,Nat.add_zero] at F1
 obtain ⟨⟨z0,c00,-⟩,-⟩:=F1
 go_enter func67,ntmps67
 go_wp2_with fail
 have y2:=z0
 clear z0 c00
 have H3:=Lib.hid (H0.out.var w.heap.size 66 [.int .u8 0,.int .i64 0,.string ⟨#[]⟩,.int .i64 0,.int .i64 0,.int .i64 0,.int .i64 0,.int .i64 0] rfl)
 clear H0
 generalize (w.alloc (.cells #[.int .u8 0,.int .i64 0,.string ⟨#[]⟩,.int .i64 0,.int .i64 0,.int .i64 0,.int .i64 0,.int .i64 0] 66))=W4 at H3 ⊢
 refine cMg (du s i _ (by omega) (by omega)) (fun _=>H3.out.below) fun w5 H7=>?_
 rw [HDR.out,HN.out]
 clear H3
 have F8:=H7.out.sees
 simp only [sees,ah,aa,ag,Nat.add_zero,ac,Nat.reduceAdd] at F8
 obtain ⟨⟨⟨z0,fz0⟩,c00,c01,c02,c03,c04,c05,c06,c07,-⟩,⟨z1,c10,-⟩,-⟩:=F8
 have hQ:(i:Int)+(n:Int)=(q:Int):=by have:=HQ.out; omega
 go_wp2_with fail
 refine cMg (gH (s.extract i q) _ (by simp; omega) (by simp; omega) (by rw [HA.out]; exact HRUN.out)) (fun _=>H7.out.below) fun w9 H11=>?_
 rw [HA.out]
 clear z0 fz0 c00 c01 c02 c03 c04 c05 c06 c07 z1 c10 H7
 have F12:=H11.out.sees
 simp only [sees,ah,aa,ag,Nat.add_zero,ac,Nat.reduceAdd] at F12
 obtain ⟨⟨⟨z0,fz0⟩,c00,c01,c02,c03,c04,c05,c06,c07,-⟩,⟨z1,c10,-⟩,-⟩:=F12
 by_cases hG:df u []≤bF
 ·have HG:=keep hG
  rw [(cB HG.out).1,(cB HG.out).2]
  clear hG
  go_wp2_with fail
  have hK:=H11.out.get (ah (w.heap.size) 66 [.int .u8 0,.int .i64 0,.string ⟨#[]⟩,.int .i64 0,.int .i64 0,.int .i64 0,.int .i64 0,.int .i64 0]) (by simp)
  have hB:=H11.out.bel
  have hE:=(((((((((show Blk w9 (w.heap.size) 66 _ from hK).set_ 0 (.int .u8 1)).set_ 1 (.int .i64 (df u []:Int))).set_ 2 (.string ⟨#[]⟩)).set_ 3 (.int .i64 0)).set_ 4 (.int .i64 0)).set_ 5 (.int .i64 0)).set_ 6 (.int .i64 0)).set_ 7 (.int .i64 (i:Int)))
  refine bodyPost_ret (v:=.tuple #[.agg #[.int .u8 1,.int .i64 (df u []:Int),.string ⟨#[]⟩,.int .i64 0,.int .i64 0,.int .i64 0,.int .i64 0,.int .i64 (i:Int)],.int .i64 (n:Int)]) (by simp [results,results67,go_sem,hE.cell]) rfl ⟨by rw [jC HNE.out (by rw [HD.out,HP.out]; simp) (by rw [HU.out,HD.out,HP.out]; exact HG.out),HU.out,HD.out,HP.out,HN.out]; rfl,(sC (sC (sC (sC (sC (sC (sC (sC hB _) _) _) _) _) _) _) _)⟩
 have HG:=keep hG
 rw [(dl HG.out).1,(dl HG.out).2]
 clear hG
 go_wp2_with fail
 have hK:=H11.out.get (ah (w.heap.size) 66 [.int .u8 0,.int .i64 0,.string ⟨#[]⟩,.int .i64 0,.int .i64 0,.int .i64 0,.int .i64 0,.int .i64 0]) (by simp)
 have hB:=H11.out.bel
 have hE:=(((((((((show Blk w9 (w.heap.size) 66 _ from hK).set_ 0 (.int .u8 0)).set_ 1 (.int .i64 0)).set_ 2 (.string ⟨#[]⟩)).set_ 3 (.int .i64 0)).set_ 4 (.int .i64 0)).set_ 5 (.int .i64 0)).set_ 6 (.int .i64 0)).set_ 7 (.int .i64 0))
 refine bodyPost_ret (v:=.tuple #[.agg #[.int .u8 0,.int .i64 0,.string ⟨#[]⟩,.int .i64 0,.int .i64 0,.int .i64 0,.int .i64 0,.int .i64 0],.int .i64 0]) (by simp [results,results67,go_sem,hE.cell]) rfl ⟨by rw [iA (by rw [HU.out,HD.out,HP.out]; exact HG.out)]; rfl,(sC (sC (sC (sC (sC (sC (sC (sC hB _) _) _) _) _) _) _) _)⟩
