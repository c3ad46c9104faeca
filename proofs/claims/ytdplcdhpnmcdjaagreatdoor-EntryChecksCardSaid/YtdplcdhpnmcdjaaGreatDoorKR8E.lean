/- entry.Canonical. known of chapter 11: the canonical input of the one formula that it asks for. The reference's judge and Depth, at nodes that a formula may hold. known of chapter 11. Plain: parts of a list of entries. No program stands here. -/
import Derived.Test.YtdplcdhpnmcdjaaGreatDoorKEng
import Derived.Test.YtdplcdhpnmcdjaaGreatDoorKTg
import Derived.Test.YtdplcdhpnmcdjaaGreatDoorKR8D
import Derived.Test.YtdplcdhpnmcdjaaGreatDoorKForB
namespace Go.Proofs.YtdplcdhpnmcdjaaGreatDoor
set_option maxRecDepth 100000
set_option maxHeartbeats 8000000
open Go.RowKit Go.Proofs.Tryz
theorem uX {w:World} {base:Nat} {v:Value} {t:List Nd} (h:w.ownsRow base 39 11 v t.length (de t)):∃ a c,v=.slice a t.length c∧bi w a 11 ((t.map Nd.any).map dv):=by
 obtain ⟨a,c,h1,-,-,h4⟩:=jV du (fun _=>rfl) h rfl
 exact ⟨a,c,h1,by rw [gJ]; exact h4⟩
theorem xJ (PT:Option Addr→World→Prop) (s R:ByteArray) (V:Int) (w:World) (f:Bool) (a:Nat) (n1:Int) (t1:List UInt8) (tl:Nat) (at_ er:Int) (HOF:ao (Calls prog 35 #[.string s] w fun e w'=>∃ ta tc,e=.returned (.tuple #[.agg #[.bool f,.int .u8 (a:Nat),.int .i64 n1,.string ⟨t1.toArray⟩,.slice ta tl tc],.int .i64 at_,.int .i64 er])∧PT ta w'∧Below w.heap.size w w')) (he:er=0) (hf:f=true) (X:ByteArray) (g:Int) (HC:ao (∀ ta tc W1 W,PT ta W1→Below w.heap.size w W1→Below W1.heap.size W1 W→Calls prog 8 #[.slice ta tl tc] W fun e w'=>e=.returned (.tuple #[.string X,.int .i64 g])∧Below W.heap.size W w')) (hg:g=0) (hz:X.size≤1000) (HV:ao (R=⟨#[61]⟩++X∧V=0)) :
  Calls prog 36 #[.string s] w fun e w'=>e=.returned (.tuple #[.string R,.int .i64 V])∧Below w.heap.size w w':=by
 subst he hf hg
 have z61:(⟨#[61]⟩:ByteArray).size=1:=rfl
 go_enter func36,ntmps36
 go_wp2_with fail
 refine HOF.out.mono ?_
 rintro e w1 ⟨ta,tc,rfl,hpt,hb2⟩
 have HPT:=keep hpt
 have H3:=Lib.hid ((Ok.start w).below hb2)
 have HB0:=Lib.hid hb2
 clear hb2 hpt
 go_upto_region 2 with fail
 have HBW:=Lib.hid ((Below.refl w1.heap.size w1).alloc (Nat.le_refl _) (.cells #[.bool true,.int .u8 (a:Nat),.int .i64 n1,.string ⟨t1.toArray⟩,.slice ta tl tc] 65))
 have H4:=Lib.hid (H3.out.var w1.heap.size 65 [.bool true,.int .u8 (a:Nat),.int .i64 n1,.string ⟨t1.toArray⟩,.slice ta tl tc] rfl)
 clear H3
 generalize (w1.alloc (.cells #[.bool true,.int .u8 (a:Nat),.int .i64 n1,.string ⟨t1.toArray⟩,.slice ta tl tc] 65))=W5 at H4 HBW ⊢
 have F6:=sE H4
 go_wp2_with fail
 refine cM (HC.out ta tc _ _ HPT.out HB0.out HBW.out) H4 fun w7 H9=>?_
 clear F6 H4
 have F10:=sE H9
 go_wp2_with fail
 exact bodyPost_ret (v:=.tuple #[.string (⟨#[61]⟩++X),.int .i64 0]) (by simp [results,results36,go_sem]) rfl ⟨by rw [HV.out.1,HV.out.2],H9.out.bel⟩
set_option maxRecDepth 100000
set_option maxHeartbeats 4000000
def kwT:List Nd:=[⟨2,0,0,[],⟨1,1,1,1⟩,0,0,0⟩,⟨1,1,10000,[],R4.zero,0,0,0⟩,cN 1]
theorem lA:bo [97,49,32,43,32,49]=(kwT,0,0):=by kernel_rfl
theorem D1:aV [61,97,49,32,43,32,49]=(⟨true,(0,0,[]),kwT⟩,0,0):=by
 rw [fT (by decide) (by decide) rfl (by show (bo [97,49,32,43,32,49]).2.2=0; rw [lA])]
 show (_,_,_)=_
 rw [show [61,97,49,32,43,32,49].tail=([97,49,32,43,32,49]:List UInt8) from rfl,lA]
theorem Bi:∀ n∈kwT,aL n∧n.vn≤9223372036854775807:=by
 intro n hn
 simp only [kwT,List.mem_cons,List.not_mem_nil,or_false] at hn
 rcases hn with rfl | rfl | rfl
 ·exact ⟨.inr (.inl ⟨⟨1,1,1,1⟩,rfl,by decide,rfl,rfl⟩),by decide⟩
 ·exact ⟨.inl ⟨1,10000,[],rfl,.inl ⟨rfl,by decide,rfl⟩⟩,by decide⟩
 exact ⟨.inr (.inr (.inr (.inr (.inr (.inl ⟨1,rfl,by decide,by decide⟩))))),by decide⟩
theorem Dl:aI (kwT.map Nd.any)=0:=by
 rw [gm fun n hn=>(Bi n hn).1]
 kernel_rfl
theorem DV (w:World):Calls prog 66 #[.int .i64 10000] w fun e w'=>e=.returned (.string ⟨#[49]⟩)∧Below w.heap.size w w':=by
 obtain ⟨i0,hi,hz0,hz1,hz2⟩:=info_parts oZ
 have HS:=keep (show Calls prog 109 #[.int .i64 10000] w fun e w'=>e=.returned (.int .u64 10000)∧w'=w from rj 10000 w (by decide) (by decide))
 have HD:=keep (fun W=>show Calls prog 110 #[.int .u64 1] W fun e w'=>e=.returned (.string ⟨([49]:List UInt8).toArray⟩)∧Below W.heap.size W w' from by
  have h:=dU 1 W (by decide)
  rw [show Go.Lib.decDigits 1=[49] from by first | kernel_rfl | (unfold Go.Lib.decDigits; rfl) | simp [Go.Lib.decDigits]] at h
  exact h)
 have H0:=Lib.hid (an.start (Ok.start w) 5 1)
 go_enter func66,ntmps66
 go_wp2_with fail
 refine HS.out.mono ?_
 rintro e w1 ⟨rfl,hw⟩
 obtain rfl:w=w1:=hw.symm
 clear HS
 go_wp2_with fail
 refine cR (HD.out _) H0 fun w3 H2=>?_
 clear H0
 go_wp2_with (at_builtin; refine Lib.wpList_append_own_string _ rfl _ _ 42 9 rfl w.heap.size 5 i0 underlying42 underlying9 hi hz0 hz1 hz2 _ _ _ rfl H2.out.own _ rfl ?c3 ?c4 ?c5 ?_)
 case c3=>decide
 case c4=>decide
 case c5=>exact H2.out.ok.bel.size
 intro v4 w4 hown hgrow _
 have H4:=Lib.hid (an.grew (l:=[]) (m:=[49]) H2.out (by have h9:=hown; simpa [ax,Lib.strCells] using h9) hgrow)
 obtain ⟨v4a,v4c,rfl⟩:=bp hown
 have hcv:=dN H4.out.own
 clear hown hgrow H2
 go_wp2_with fail
 go_ret
 exact ⟨rfl,H4.out.ok.bel⟩
theorem D6 (w:World) :
  Calls prog 32 #[.agg #[.int .u8 1,.int .i64 10000,.string ⟨#[]⟩]] w fun e w'=>e=.returned (.tuple #[.string ⟨[49].toArray⟩,.int .i64 0])∧Below w.heap.size w w':=by
 have HCK:=keep ((dC 1 10000 []).1 (.inl ⟨rfl,by decide,rfl⟩))
 have H1:=Lib.hid (((Ok.start w).alloc w.heap.size 35 [.int .u8 1,.int .i64 10000,.string ⟨#[]⟩] rfl).alloc (w.heap.size+1) 39 [.int .u8 1,.int .u8 1,.int .i64 10000,.string ⟨#[]⟩,.int .i64 0,.int .i64 0,.int .i64 0,.int .i64 0,.int .i64 0,.int .u8 0,.int .i64 0] (by simp))
 go_enter func32,ntmps32
 go_wp2_with fail
 generalize ((w.alloc (.cells #[.int .u8 1,.int .i64 10000,.string ⟨#[]⟩] 35)).alloc (.cells #[.int .u8 1,.int .u8 1,.int .i64 10000,.string ⟨#[]⟩,.int .i64 0,.int .i64 0,.int .i64 0,.int .i64 0,.int .i64 0,.int .u8 0,.int .i64 0] 39))=W2 at H1 ⊢
 have HRW:=keep (eC (a:=(ff 1 10000 [])) (show Blk _ _ _ _ from H1.out.get (ac (w.heap.size+1) 39 [.int .u8 1,.int .u8 1,.int .i64 10000,.string ⟨#[]⟩,.int .i64 0,.int .i64 0,.int .i64 0,.int .i64 0,.int .i64 0,.int .u8 0,.int .i64 0]) (by simp)))
 refine cM (bW [(ff 1 10000 [])] (some ⟨w.heap.size+1,0,none⟩) 1 _ HRW.out (by show 1≤1000; decide) (Dj (by decide))) H1 fun w3 H5=>?_
 clear H1
 have F6:=sE H5
 rw [HCK.out]
 go_wp2_with fail
 refine cM (DV _) H5 fun w7 H9=>?_
 clear F6 H5
 have F10:=sE H9
 go_wp2_with fail
 exact bodyPost_ret (v:=.tuple #[.string ⟨[49].toArray⟩,.int .i64 0]) (by simp [results,results32,go_sem]) rfl ⟨rfl,H9.out.bel⟩
theorem Ea (w:World) :
  Calls prog 52 #[.agg #[.int .u8 1,.int .u8 1,.int .i64 10000,.string ⟨#[]⟩,.int .i64 0,.int .i64 0,.int .i64 0,.int .i64 0,.int .i64 0,.int .u8 0,.int .i64 0]] w fun e w'=>e=.returned (.string ⟨[49].toArray⟩)∧Below w.heap.size w w':=by
 obtain ⟨X,hX⟩:∃ X:ByteArray,⟨[49].toArray⟩=X:=⟨_,rfl⟩
 have HLT:=keep (fun (w2:World)=>D6 w2)
 rw [hX] at HLT ⊢
 clear hX
 have H1:=Lib.hid ((Ok.start w).alloc w.heap.size 39 [.int .u8 1,.int .u8 1,.int .i64 10000,.string ⟨#[]⟩,.int .i64 0,.int .i64 0,.int .i64 0,.int .i64 0,.int .i64 0,.int .u8 0,.int .i64 0] rfl)
 go_enter func52,ntmps52
 go_wp2_with fail
 generalize (w.alloc (.cells #[.int .u8 1,.int .u8 1,.int .i64 10000,.string ⟨#[]⟩,.int .i64 0,.int .i64 0,.int .i64 0,.int .i64 0,.int .i64 0,.int .u8 0,.int .i64 0] 39))=W2 at H1 ⊢
 refine cM (HLT.out _) H1 fun w3 H5=>?_
 clear H1
 have F6:=sE H5
 go_wp2_with fail
 go_ret
 exact ⟨rfl,H5.out.bel⟩
theorem Et:∀ n∈kwT,∀ w,dm w→Calls prog 52 #[ndA n] w fun e w'=>e=.returned (.string ⟨(cU n).toArray⟩)∧Below w.heap.size w w':=by
 intro n hn w hw
 simp only [kwT,List.mem_cons,List.not_mem_nil,or_false] at hn
 rcases hn with rfl | rfl | rfl
 ·have h:=wU 1 1 1 1 w (Lib.hid hw)
  rw [show (im ⟨1,1,1,1⟩).1=cU ⟨2,0,0,[],⟨1,1,1,1⟩,0,0,0⟩ from by kernel_rfl] at h
  exact h
 ·have h:=Ea w
  rw [show [49]=cU ⟨1,1,10000,[],R4.zero,0,0,0⟩ from by kernel_rfl] at h
  exact h
 have h:=yf 1 (by decide) (by decide) w
 rw [show fA 1=cU (cN 1) from by kernel_rfl] at h
 exact h
theorem Bj:f9 kwT where
 good:=Bi
 chk:=Dl
 len:=by decide
 kids:=by
  intro k n h
  match k with
  | 0=>obtain rfl:(⟨2,0,0,[],⟨1,1,1,1⟩,0,0,0⟩:Nd)=n:=Option.some.inj h; show (ai kwT 0).length=_; kernel_rfl
  | 1=>obtain rfl:(⟨1,1,10000,[],R4.zero,0,0,0⟩:Nd)=n:=Option.some.inj h; show (ai kwT 1).length=_; kernel_rfl
  | 2=>obtain rfl:(cN 1:Nd)=n:=Option.some.inj h; show (ai kwT 2).length=_; kernel_rfl
  | k+3=>cases h
 own:=Et
theorem D2 (tb tz tc:Nat):eH kwT tb tz tc 2:=fun w hin =>
 yB kwT tb tz tc 2 0 0 [] 0 0 0 0 1 0 0 (by decide) Bj (by decide) rfl (fun j hj w hin=>by
  match j,hj with
  | 0,_=>exact yx kwT tb tz tc 0 0 0 [] 1 1 1 1 0 0 0 Bj (by decide) rfl w hin
  | 1,_=>exact yw kwT tb tz tc 1 1 10000 [] 0 0 0 0 0 0 0 Bj (by decide) rfl w hin) w hin
theorem Cg (ta:Option Addr) (tc:Nat) (w:World) (hr:bi w ta 11 (kwT.map du)) (he:dm w) :
  Calls prog 8 #[.slice ta 3 tc] w fun e w'=>e=.returned (.tuple #[.string ⟨#[65,49,43,49]⟩,.int .i64 0])∧Below w.heap.size w w':=by
 obtain ⟨tb,tz,rfl,-,-⟩:=hr (by decide)
 have hck:=bW (kwT.map Nd.any) (some ⟨tb,tz,none⟩) tc w (by rw [gJ]; exact hr) (by decide) (Ao fun n hn=>(Bi n hn).1)
 rw [Dl] at hck
 have HCK:=keep hck
 have HTX:=keep (fun w2 (h:TIn kwT tb tz w2)=>by
  have:=D2 tb tz tc w2 h
  rw [show (aR kwT 2).1=[65,49,43,49] from by kernel_rfl] at this
  exact this)
 have HIN:=keep (show TIn kwT tb tz w from ⟨hr,he⟩)
 clear hck hr he
 go_enter func8,ntmps8
 go_wp2_with fail
 refine HCK.out.mono ?_
 rintro e w1 ⟨rfl,hb⟩
 have HB:=Lib.hid hb
 have HI2:=keep (HIN.out.below hb)
 clear hb
 go_wp2_with fail
 refine (HTX.out _ HI2.out).mono ?_
 rintro e w2 ⟨rfl,hb⟩
 have HB2:=Lib.hid (al HB.out hb)
 clear hb
 go_wp2_with fail
 exact bodyPost_ret (v:=.tuple #[.string ⟨#[65,49,43,49]⟩,.int .i64 0]) (by simp [results,results8,go_sem]) rfl ⟨rfl,HB2.out⟩
theorem Bh (w:World) (he:dm w) :
  Calls prog 36 #[.string ⟨#[61,97,49,32,43,32,49]⟩] w fun e w'=>e=.returned (.tuple #[.string ⟨#[61,65,49,43,49]⟩,.int .i64 0])∧Below w.heap.size w w':=by
 have hof:=js ⟨#[61,97,49,32,43,32,49]⟩ w he.1
 unfold ku at hof
 rw [show (⟨#[61,97,49,32,43,32,49]⟩:ByteArray).data.toList=[61,97,49,32,43,32,49] from rfl,D1] at hof
 refine xJ (fun ta w'=>bi w' ta 11 (kwT.map du)) _ _ _ w true 0 0 [] 3 0 0 (keep (hof.mono ?_)) rfl rfl ⟨#[65,49,43,49]⟩ 0 (keep fun ta tc W1 W h1 h2 h3=>Cg ta tc W (h1.below h3) ((he.below h2).below h3)) rfl (by decide) (keep ⟨rfl,rfl⟩)
 rintro e w' ⟨tv,rfl,h1,h2⟩
 obtain ⟨ta,tc,rfl,h3⟩:=uX h1
 rw [gJ] at h3
 exact ⟨ta,tc,rfl,h3,h2⟩
set_option maxRecDepth 100000
set_option maxHeartbeats 8000000
theorem BW {t:List Nd} {st:List Pt} {i:Nat} {n:Nd} {c:Int} (h:stepW t st i n=.error c):(c != 0)=true:=by
 unfold stepW at h
 split at h
 ·cases h; rfl
 split at h
 ·cases h; rfl
 split at h
 ·cases h; rfl
 cases h
theorem Cq {t:List Nd} {st st2:List Pt} {i:Nat} {n:Nd} (h:stepW t st i n=.ok st2):∃ d D,st2=st.take d++[⟨i,D,decide (n.kind=3)⟩]:=by
 unfold stepW at h
 split at h
 ·cases h
 split at h
 ·cases h
 split at h
 ·cases h
 cases h
 exact ⟨_,_,rfl⟩
theorem Cn (t:List Nd) (ta:Option Addr) (tc:Nat) (w:World) (ht:bi w ta 11 (t.map du)) (htl:t.length≤1000) (hgood:∀ n∈t,aL n) :
  Calls prog 95 #[.slice ta t.length tc] w (Cr (dT t 0 t []) w):=by
 have HT:=keep ht
 have HG:=keep hgood
 clear ht hgood
 obtain ⟨tl,htl2⟩:=ex (t.length)
 rw [htl2] at htl ⊢
 have HTL:=keep htl2
 clear htl2
 obtain ⟨V,hV⟩:=ex (dT t 0 t [])
 rw [hV]
 have HV:=keep hV
 clear hV
 go_enter func95,ntmps95
 go_wp2_with fail
 go_loopg [4,5] tl (fun gf sv iv wr=>∃ (i:Nat) (st:List Pt),gf=tl - i∧iv=.int .i64 (i:Int)∧i≤tl∧st.length≤i∧ao (Wlk t i st)∧ao (∀ p∈st,p.wide=decide (lz t p.root=3))∧Hid (an w [] 130 2 sv st.length (hJ st) wr))
 case atStart=>exact ⟨0,[],by simp,rfl,Nat.zero_le _,Nat.zero_le _,keep ⟨rfl,by simp⟩,keep (by simp),Lib.hid (an.start (Ok.start w) _ _)⟩
 case round =>
  obtain ⟨i,st,hgf,rfl,hit,hsl,HK,HW,HR⟩:=hrel
  obtain ⟨wp,rfl⟩:∃ wp:World,wp=wr:=⟨_,rfl⟩
  obtain ⟨sv,rfl⟩:∃ sv:Value,sv=u4:=⟨_,rfl⟩
  subst hgf
  by_cases hlt:(i:Int)<tl
  ·have hil:i<t.length:=by rw [HTL.out]; omega
   have HIL:=keep hil
   obtain ⟨n,hn⟩:=ex (t[i]'HIL.out)
   have HN:=keep hn
   have hn2:t[i]?=some n:=by rw [List.getElem?_eq_getElem hil,hn]
   have hgn:=HG.out n (by rw [← hn]; exact List.getElem_mem _)
   have hst:∀ p∈st,p.root<t.length∧p.depth≤32∧p.wide=decide (lz t p.root=3):=fun p hp=>⟨Nat.lt_trans (HK.out.2 p hp).1 hil,(HK.out.2 p hp).2,HW.out p hp⟩
   have hcall:=CV t ta tc i n st sv w.heap.size wp (HT.out.below HR.out.ok.bel) (by rw [HTL.out]; exact htl) hn2 hgn hst (by omega) HR.out.ok.bel.size HR.out.own
   rw [HTL.out] at hcall
   have HCALL:=keep hcall
   have HKA:=keep (show lz t i=n.kind by unfold lz; rw [hn2]; rfl)
   obtain ⟨R,hR⟩:=ex (stepW t st i n)
   rw [hR] at HCALL
   have HRR:=keep hR
   clear hil hn hn2 hgn hst hcall hR
   cases R with
   | error c =>
    have hc:=BW HRR.out
    go_wp2_with fail
    refine (HCALL.out).mono ?_
    rintro e w7 ⟨rfl,hb⟩
    have HB7:=Lib.hid (HR.out.ok.bel.trans (hb.mono HR.out.ok.bel.size))
    clear hb HR HCALL
    have hv:V=.error c:=by
     rw [← HV.out,HK.out.1,List.drop_eq_getElem_cons HIL.out,dT,HN.out,HRR.out]
    subst hv
    go_wp2_with fail
    exact bodyPost_ret (v:=.tuple #[.slice none 0 0,.int .i64 c]) (by simp [results,results95,go_sem]) rfl ⟨rfl,HB7.out⟩
   | ok st2 =>
    go_wp2_with fail
    refine (HCALL.out).mono ?_
    rintro e w7 ⟨v,rfl,hown,hb⟩
    have HR7:=Lib.hid (an.of_new HR.out.ok hb hown)
    clear hb hown HR HCALL
    go_wp2_with fail
    go_roundg (tl - (i+1))
    case rel =>
     obtain ⟨d,D,hsh⟩:=Cq HRR.out
     refine ⟨i+1,st2,rfl,by go_num,by omega,?_,keep (HK.out.next HIL.out (by rw [HN.out]; exact HRR.out)),keep ?_,HR7⟩
     ·rw [hsh,List.length_append,List.length_take,List.length_singleton]
      omega
     intro p hp
     rw [hsh] at hp
     rcases List.mem_append.1 hp with hp | hp
     ·exact HW.out p (List.mem_of_mem_take hp)
     simp only [List.mem_singleton] at hp
     subst hp
     show decide (n.kind=3)=decide (lz t i=3)
     rw [HKA.out]
    case measure=>omega
  obtain rfl:i=tl:=by omega
  have hv:V=.ok st:=by
   rw [← HV.out,HK.out.1,List.drop_of_length_le (by rw [HTL.out]; exact Nat.le_refl _)]
   rfl
  subst hv
  go_wp2_with fail
  exact bodyPost_ret (v:=.tuple #[sv,.int .i64 0]) (by simp [results,results95,go_sem]) rfl ⟨sv,rfl,HR.out.own,HR.out.ok.bel⟩
theorem C0 {t:List Nd} {c:Int} (h:dT t 0 t []=.error c):t≠[]∧(c != 0)=true:=by
 refine ⟨by rintro rfl; simp [dT] at h,?_⟩
 have key:∀ (l:List Nd) (i:Nat) (st:List Pt),dT t i l st=.error c→(c != 0)=true:=by
  intro l
  induction l with
  | nil=>intro i st h; simp [dT] at h
  | cons n l ih =>
   intro i st h
   rw [dT] at h
   cases hs:stepW t st i n with
   | error e=>rw [hs] at h; cases h; exact BW hs
   | ok st2=>rw [hs] at h; exact ih _ _ h
 exact key _ _ _ h
theorem Cm (t:List Nd) (ta:Option Addr) (tc:Nat) (w:World) (ht:bi w ta 11 (t.map du)) (htl:t.length≤1000) (hgood:∀ n∈t,aL n) :
  Calls prog 54 #[.slice ta t.length tc] w fun e w'=>∃ d:Int,e=.returned (.tuple #[.int .i64 d,.int .i64 (dp t)])∧Below w.heap.size w w':=by
 have HJ:=keep (Cn t ta tc w ht htl hgood)
 have HT:=keep ht
 clear ht hgood
 obtain ⟨tl,htl2⟩:=ex (t.length)
 rw [htl2] at htl HJ ⊢
 have HTL:=keep htl2
 clear htl2
 obtain ⟨V,hV⟩:=ex (dp t)
 rw [hV]
 have HV:=keep hV
 clear hV
 by_cases h256:256<tl
 ·have h256i:(tl:Int)>256:=by omega
  have hv:V=5:=by rw [← HV.out]; exact B6 (by rw [HTL.out]; exact h256)
  subst hv
  have HB:=Lib.hid (Below.refl w.heap.size w)
  go_enter func54,ntmps54
  go_wp2_with fail
  exact bodyPost_ret (v:=.tuple #[.int .i64 0,.int .i64 5]) (by simp [results,results54,go_sem]) rfl ⟨0,rfl,HB.out⟩
 have h256i:¬ (tl:Int)>256:=by omega
 have HNL:=keep (show ¬ 256<t.length by rw [HTL.out]; exact h256)
 cases hw:dT t 0 t [] with
 | error c =>
  rw [hw] at HJ
  obtain ⟨h1,h2⟩:=C0 hw
  have hE:kV t=c:=by unfold kV; rw [hw]
  have hc0:c≠0:=by simpa using h2
  have hv:V=c:=by rw [← HV.out,AY HNL.out h1 (by rw [hE]; exact hc0),hE]
  subst hv
  clear hw h1 hE hc0
  go_enter func54,ntmps54
  go_wp2_with fail
  refine (HJ.out).mono ?_
  rintro e w7 ⟨rfl,hb⟩
  have HB7:=Lib.hid hb
  clear hb HJ
  go_wp2_with fail
  exact bodyPost_ret (v:=.tuple #[.int .i64 0,.int .i64 V]) (by simp [results,results54,go_sem]) rfl ⟨0,rfl,HB7.out⟩
 | ok st =>
  rw [hw] at HJ
  have hE:kV t=if st.length=1 then 0 else 4:=by unfold kV; rw [hw]
  have HE:=keep hE
  have HWW:=keep hw
  clear hw hE
  obtain ⟨m,hm⟩:=ex (st.length)
  have HM:=keep hm
  clear hm
  by_cases h1:m=1
  ·subst h1
   have h0:t≠[]:=by
    rintro rfl
    have h9:=HWW.out
    simp [dT] at h9
    have h8:=HM.out
    rw [h9] at h8
    simp at h8
   have hE0:kV t=0:=by rw [HE.out,if_pos HM.out]
   have hil:tl - 1<t.length:=by
    have:=List.length_pos_iff.2 h0
    rw [HTL.out] at this ⊢
    omega
   obtain ⟨n,hn⟩:∃ n,t[tl - 1]?=some n:=⟨_,List.getElem?_eq_getElem hil⟩
   obtain ⟨nk,hnk⟩:=ex (n.kind)
   have hv:V=if nk=3 then 4 else 0:=by rw [← HV.out]; exact B5 HNL.out h0 hE0 (by rw [HTL.out]; exact hn) hnk
   obtain ⟨x,hx⟩:=ex (tl - 1)
   rw [hx] at hn
   obtain ⟨tb,tz,rfl,htb,htcell⟩:=HT.out (by intro e; exact h0 (List.map_eq_nil_iff.1 e))
   have hcl:=htcell x (du n) (by rw [List.getElem?_map,hn]; rfl) 0 (.int .u8 (n.kind:Nat)) rfl
   rw [hnk,← Nat.add_assoc] at hcl
   simp only [Nat.add_zero] at hcl
   have hxl:x+1=tl:=by
    rw [HTL.out] at hil
    omega
   have hxi:(x:Int)<(tl:Int):=by omega
   have hxe:(tl:Int) - 1=(x:Int):=by omega
   have hxw:IntKind.i64.wrap (x:Int)=(x:Int):=Go.IntWalk.i64_in _ (by omega)
   have HCL:=keep hcl
   have HTB:=keep htb
   have HVV:=keep hv
   clear hcl hn htcell hil h0 hE0 hx hxl hv htb hnk
   go_enter func54,ntmps54
   go_wp2_with fail
   refine (HJ.out).mono ?_
   rintro e w7 ⟨v,rfl,hown,hb⟩
   rw [HM.out] at hown
   have hlt:=hown.lt
   have hoc:=@World.ownsRow.cells _ _ _ _ _ _ _ hown
   rcases hown.2 with ⟨_,h9⟩ | ⟨g,cap,cur,rfl,_,_,hcap,_,_,_⟩
   ·omega
   obtain ⟨p,hp⟩:∃ p,st=[p]:=List.length_eq_one_iff.1 HM.out
   have hd:=hoc rfl 1 (.int .i64 (p.depth:Nat)) (by rw [hp]; rfl)
   rw [Be] at hd
   have hgl:=(hlt g rfl).2
   have hcl2:=(hb.cell HTB.out).trans HCL.out
   have htb2:tb<w7.heap.size:=Nat.lt_of_lt_of_le HTB.out hb.size
   have HB7:=Lib.hid hb
   clear hb hown hoc hlt HJ
   by_cases h3:nk=3
   ·subst h3
    have hv2:V=4:=HVV.out
    subst hv2
    go_wp2_with fail
    exact bodyPost_ret (v:=.tuple #[.int .i64 0,.int .i64 4]) (by simp [results,results54,go_sem]) rfl ⟨0,rfl,HB7.out⟩
   have hv2:V=0:=by rw [HVV.out,if_neg h3]
   subst hv2
   have h3b:((nk:Int) == 3)=false:=by simp; omega
   clear h3
   go_wp2_with fail
   exact bodyPost_ret (v:=.tuple #[.int .i64 (p.depth:Nat),.int .i64 0]) (by simp [results,results54,go_sem]) rfl ⟨_,rfl,HB7.out⟩
  have hv:V=4:=by
   rw [← HV.out]
   by_cases h0:t=[]
   ·subst h0; exact B7
   have hE4:kV t=4:=by rw [HE.out,if_neg (by rw [HM.out]; exact h1)]
   rw [AY HNL.out h0 (by rw [hE4]; decide),hE4]
  subst hv
  have h1b:((m:Int) != 1)=true:=by simp; omega
  clear h1
  go_enter func54,ntmps54
  go_wp2_with fail
  refine (HJ.out).mono ?_
  rintro e w7 ⟨v,rfl,hown,hb⟩
  rw [HM.out] at hown
  have HB7:=Lib.hid hb
  obtain ⟨va,vc,rfl⟩:∃ va vc,v=.slice va m vc:=by
   rcases hown.2 with ⟨rfl,h9⟩ | ⟨g,cap,cur,rfl,_⟩
   ·exact ⟨none,0,by rw [h9]⟩
   exact ⟨_,_,rfl⟩
  clear hb hown HJ
  go_wp2_with fail
  exact bodyPost_ret (v:=.tuple #[.int .i64 0,.int .i64 4]) (by simp [results,results54,go_sem]) rfl ⟨0,rfl,HB7.out⟩
set_option maxRecDepth 100000
set_option maxHeartbeats 8000000
attribute [local go_sem high] ju
theorem uc:aV [50,46,53]=(⟨false,(1,25000,[]),[]⟩,0,0):=by
 rw [eN (by decide) (by decide) (by decide)]
 rfl
theorem mm (w:World) (he:dm w) :
  Calls prog 17 #[] w fun e w'=>e=.returned (.bool true)∧Below w.heap.size w w':=by
 have HE:=keep he
 have hof:=js ⟨#[50,46,53]⟩ w he.1
 unfold ku at hof
 rw [show (⟨#[50,46,53]⟩:ByteArray).data.toList=[50,46,53] from rfl,uc] at hof
 have HOF:=keep (hof.mono (R':=fun e w'=>∃ ta tn tc,e=.returned (.tuple #[.agg #[.bool false,.int .u8 1,.int .i64 25000,.string ⟨#[]⟩,.slice ta tn tc],.int .i64 0,.int .i64 0])∧Below w.heap.size w w') (by
  rintro e w' ⟨tv,rfl,g1,g2⟩
  obtain ⟨ta,tc,rfl⟩:=bp g1
  exact ⟨ta,_,tc,rfl,g2⟩))
 have HCA:=keep (fun W (h:dm W)=>Bh W h)
 clear he hof
 go_enter func17,ntmps17
 go_wp2_with fail
 refine HOF.out.mono ?_
 rintro e w1 ⟨ta,tn,tc,rfl,hb2⟩
 have H3:=Lib.hid ((Ok.start w).below hb2)
 clear hb2
 go_upto_region 2 with fail
 have H4:=Lib.hid (H3.out.var w1.heap.size 65 [.bool false,.int .u8 1,.int .i64 25000,.string ⟨#[]⟩,.slice ta tn tc] rfl)
 clear H3
 generalize (w1.alloc (.cells #[.bool false,.int .u8 1,.int .i64 25000,.string ⟨#[]⟩,.slice ta tn tc] 65))=W5 at H4 ⊢
 have F6:=sE H4
 go_wp2_with fail
 refine cM (HCA.out _ (HE.out.below H4.out.bel)) H4 fun w7 H9=>?_
 clear F6 H4
 have F10:=sE H9
 go_wp2_with fail
 go_ret
 exact ⟨rfl,H9.out.bel⟩
open Go.RowKit
