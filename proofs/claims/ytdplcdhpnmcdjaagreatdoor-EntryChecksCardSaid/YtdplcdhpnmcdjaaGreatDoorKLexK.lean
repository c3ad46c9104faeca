/- The contracts of the lexer's fail and sign. Plain: the outline's lines begin with no blank of their own. No program stands here. Plain: the outline's deepest line. No program stands here. Plain: what stands directly below a node; texts and outlines node by node. No program stands here. -/
import Derived.Test.YtdplcdhpnmcdjaaGreatDoorKLexG
import Derived.Test.YtdplcdhpnmcdjaaGreatDoorKTg
import Derived.Test.YtdplcdhpnmcdjaaGreatDoorKLexJ
import Derived.Test.YtdplcdhpnmcdjaaGreatDoorKLexP
import Derived.Test.YtdplcdhpnmcdjaaGreatDoorKVal
import Derived.Lib.Strings
import Derived.Laws.Strings3
import Derived.Deep.DeepCutAuto
namespace Go.Proofs.YtdplcdhpnmcdjaaGreatDoor
set_option maxRecDepth 100000
set_option maxHeartbeats 4000000
open Go.RowKit Go.Proofs.Tryz
theorem fy (c:Int) (w:World) :
  Calls prog 163 #[.int .i64 c] w fun e w'=>e=.returned (.bool (decide (1≤c∧c≤5)))∧w'=w:=by
 by_cases h1:1≤c
 ·go_enter func163,ntmps163
  go_wp2_with fail
  go_ret
  exact ⟨by simp; omega,rfl⟩
 go_enter func163,ntmps163
 go_wp2_with fail
 go_ret
 exact ⟨by simp; omega,rfl⟩
def jw (l:List UInt8) (i:Nat):Option (Tk×Nat):=(gq l).map fun x=>(⟨4,x.1,[],R4.zero,i⟩,x.2)
theorem pW (l:List UInt8) (c:Nat) (h1:1≤c) (h5:c≤5):lm l (bj.drop (c - 1)) c =
  if (l.take (aB[c]?.getD []).length).map upB=aB[c]?.getD [] then some (c,(aB[c]?.getD []).length) else lm l (bj.drop c) (c+1):=by
 rcases (show c=1∨c=2∨c=3∨c=4∨c=5 by omega) with rfl | rfl | rfl | rfl | rfl <;> rfl
theorem rH (c:Nat) (h1:1≤c) (h5:c≤5):4≤(aB[c]?.getD []).length∧(aB[c]?.getD []).length≤7:=by
 rcases (show c=1∨c=2∨c=3∨c=4∨c=5 by omega) with rfl | rfl | rfl | rfl | rfl <;> decide
theorem nI (s p:ByteArray) (w:World) :
  Calls prog 154 #[.string s,.string p] w fun e w'=>e=.returned (.bool (Lib.hasPrefix s.data.toList p.data.toList))∧w'=w:=by
 rw [← Lib.hasPrefix_of_take,← Lib.size_eq,← Lib.size_eq]
 go_enter func154,ntmps154
 go_wp2
 ·rename_i h
  go_ret
  refine ⟨?_,rfl⟩
  show Ending.returned (Value.bool ((s.extract 0 p.size).toList == p.toList))=_
  rw [Lib.extract_toList,Lib.toList_data]
  simp [h]
 rename_i h
 go_ret
 refine ⟨?_,rfl⟩
 show Ending.returned (Value.bool false)=_
 simp [h]
theorem strings_HasPrefix (s p:ByteArray) (w:World) :
  Calls prog 101 #[.string s,.string p] w fun e w'=>e=.returned (.bool (Lib.hasPrefix s.data.toList p.data.toList))∧w'=w:=by
 go_enter func101,ntmps101
 go_wp2_with fail
 refine (nI _ _ _).mono ?_
 rintro e w1 ⟨rfl,rfl⟩
 go_wp2_with fail
 go_ret
 exact ⟨rfl,rfl⟩
def gW:List (List UInt8):=[[60,62],[60,61],[62,61],[43],[45],[42],[47],[94],[38],[61],[60],[62],[37]]
def rQ:List Int:=[8,10,12,1,2,3,4,5,6,7,9,11,13]
def mB:List Value:=gW.map fun x=>.string ⟨x.toArray⟩
def mA:List Value:=rQ.map fun x=>.int .i64 x
def dP (l:List UInt8) (i:Nat):Option (Tk×Nat):=(opS l).map fun x=>(⟨x.1,x.2.1,[],R4.zero,i⟩,x.2.2)
def pre (x l:List UInt8):Prop:=l.take x.length=x
instance (x l:List UInt8):Decidable (pre x l):=inferInstanceAs (Decidable (l.take x.length=x))
theorem vg (l x:List UInt8):Lib.hasPrefix l x=decide (pre x l):=by
 unfold pre
 rw [← Lib.hasPrefix_of_take]
 by_cases h:l.take x.length=x
 ·have h2:x.length≤l.length:=by have h3:=congrArg List.length h; rw [List.length_take] at h3; omega
  simp [h,h2]
 simp [h]
theorem aO (a:UInt8) (x l:List UInt8):pre (a::x) l↔∃ r,l=a::r∧pre x r:=by
 unfold pre
 cases l with
 | nil=>simp
 | cons b r =>
  simp only [List.length_cons,List.take_succ_cons,List.cons.injEq]
  constructor
  ·rintro ⟨rfl,h⟩
   exact ⟨r,⟨rfl,rfl⟩,h⟩
  rintro ⟨q,⟨rfl,rfl⟩,h⟩
  exact ⟨rfl,h⟩
theorem rZ (l:List UInt8) (i:Nat) (hj:i<13) (hp:∀ k,k<i→¬ pre (gW[k]?.getD []) l) (h:pre (gW[i]?.getD []) l) :
  opS l=some (8,rQ[i]?.getD 0,(gW[i]?.getD []).length):=by
 have h0:∀ x,gW[0]?.getD []=x→0<i→¬ pre x l:=by rintro x rfl h; exact hp 0 h
 have h1:∀ x,gW[1]?.getD []=x→1<i→¬ pre x l:=by rintro x rfl h; exact hp 1 h
 have h2:∀ x,gW[2]?.getD []=x→2<i→¬ pre x l:=by rintro x rfl h; exact hp 2 h
 have h0:=h0 _ rfl
 have h1:=h1 _ rfl
 have h2:=h2 _ rfl
 clear hp
 rcases (show i=0∨i=1∨i=2∨i=3∨i=4∨i=5∨i=6∨i=7∨i=8∨i=9∨i=10∨i=11∨i=12 by omega) with rfl | rfl | rfl | rfl | rfl | rfl | rfl | rfl | rfl | rfl | rfl | rfl | rfl
 ·obtain ⟨r,rfl,hr⟩:=(aO _ _ _).1 h
  obtain ⟨r,rfl,_⟩:=(aO _ _ _).1 hr
  rfl
 ·obtain ⟨r,rfl,hr⟩:=(aO _ _ _).1 h
  obtain ⟨r,rfl,_⟩:=(aO _ _ _).1 hr
  rfl
 ·obtain ⟨r,rfl,hr⟩:=(aO _ _ _).1 h
  obtain ⟨r,rfl,_⟩:=(aO _ _ _).1 hr
  rfl
 ·obtain ⟨r,rfl,hr⟩:=(aO _ _ _).1 h
  rfl
 ·obtain ⟨r,rfl,hr⟩:=(aO _ _ _).1 h
  rfl
 ·obtain ⟨r,rfl,hr⟩:=(aO _ _ _).1 h
  rfl
 ·obtain ⟨r,rfl,hr⟩:=(aO _ _ _).1 h
  rfl
 ·obtain ⟨r,rfl,hr⟩:=(aO _ _ _).1 h
  rfl
 ·obtain ⟨r,rfl,hr⟩:=(aO _ _ _).1 h
  rfl
 ·obtain ⟨r,rfl,hr⟩:=(aO _ _ _).1 h
  rfl
 ·obtain ⟨r,rfl,hr⟩:=(aO _ _ _).1 h
  have h0:=h0 (by decide)
  have h1:=h1 (by decide)
  rw [bQ,if_pos rfl,if_neg,if_neg]
  ·rfl
  ·intro e
   cases r with
   | nil=>simp at e
   | cons c r=>simp at e; subst e; exact h1 ((aO _ _ _).2 ⟨_,rfl,(aO _ _ _).2 ⟨_,rfl,rfl⟩⟩)
  intro e
  cases r with
  | nil=>simp at e
  | cons c r=>simp at e; subst e; exact h0 ((aO _ _ _).2 ⟨_,rfl,(aO _ _ _).2 ⟨_,rfl,rfl⟩⟩)
 ·obtain ⟨r,rfl,hr⟩:=(aO _ _ _).1 h
  have h2:=h2 (by decide)
  rw [bQ,if_neg (by decide),if_pos rfl,if_neg]
  ·rfl
  intro e
  cases r with
  | nil=>simp at e
  | cons c r=>simp at e; subst e; exact h2 ((aO _ _ _).2 ⟨_,rfl,(aO _ _ _).2 ⟨_,rfl,rfl⟩⟩)
 obtain ⟨r,rfl,hr⟩:=(aO _ _ _).1 h
 rfl
theorem qC (b:UInt8) (r:List UInt8) (hp:∀ k,k<13→¬ pre (gW[k]?.getD []) (b::r)):opS (b::r)=if b=40 then some (9,0,1) else if b=41 then some (10,0,1) else if b=44 then some (11,0,1) else none:=by
 have one:∀ c:UInt8,∀ k,k<13→gW[k]?.getD []=[c]→b≠c:=by
  intro c k hk hc e
  subst e
  exact hp k hk (by rw [hc]; exact (aO _ _ _).2 ⟨_,rfl,rfl⟩)
 have a1:=one 43 3 (by decide) rfl
 have a2:=one 45 4 (by decide) rfl
 have a3:=one 42 5 (by decide) rfl
 have a4:=one 47 6 (by decide) rfl
 have a5:=one 94 7 (by decide) rfl
 have a6:=one 38 8 (by decide) rfl
 have a7:=one 61 9 (by decide) rfl
 have a8:=one 60 10 (by decide) rfl
 have a9:=one 62 11 (by decide) rfl
 have a10:=one 37 12 (by decide) rfl
 rw [bQ,if_neg a8,if_neg a9]
 have e:∀ c:UInt8,b≠c→(c == b)=false:=fun c h=>by simpa using fun e=>h e.symm
 by_cases b1:b=40
 ·subst b1; rfl
 by_cases b2:b=41
 ·subst b2; rfl
 by_cases b3:b=44
 ·subst b3; rfl
 rw [if_neg b1,if_neg b2,if_neg b3]
 unfold op1 iP
 simp only [List.find?_cons,e 43 a1,e 45 a2,e 42 a3,e 47 a4,e 94 a5,e 38 a6,e 61 a7,e 37 a10,e 40 b1,e 41 b2,e 44 b3,List.find?_nil,Option.map_none]
theorem mI (s:ByteArray) (rb i:Nat) (w:World) (hs:s.size≤300) (hi:i<s.size) (hw:Words w) (hr:w.cell? ⟨rb,0,none⟩=some (.string s)) :
  Calls prog 106 #[.pointer (some ⟨rb,0,none⟩),.int .i64 (i:Int)] w fun e w'=>e=.returned (fF (jw (aK s i) i))∧Below w.heap.size w w':=by
 have hh:=ey hr
 have H0:=Lib.hid hh
 have HW:=Lib.hid hw
 clear hh hw
 have F1:=H0.out.sees
 simp only [sees,ae,ag,Nat.add_zero] at F1
 obtain ⟨⟨z0,c00,-⟩,-⟩:=F1
 go_enter func106,ntmps106
 go_wp2_with fail
 have y2:=z0
 clear z0 c00
 have H3:=Lib.hid (H0.out.var w.heap.size 97 [.int .u8 0,.int .i64 0,.string ⟨#[]⟩,.int .i64 0,.int .i64 0,.int .i64 0,.int .i64 0,.int .i64 0] rfl)
 clear H0
 generalize (w.alloc (.cells #[.int .u8 0,.int .i64 0,.string ⟨#[]⟩,.int .i64 0,.int .i64 0,.int .i64 0,.int .i64 0,.int .i64 0] 97))=W4 at H3 ⊢
 go_loopw [6] (fun cv wr=>∃ c:Nat,1≤c∧c≤6∧cv=.int .i64 (c:Int)∧ao (gq (aK s i)=lm (aK s i) (bj.drop (c - 1)) c)∧Hid (Ok w [af (w.heap.size) 97 [.int .u8 0,.int .i64 0,.string ⟨#[]⟩,.int .i64 0,.int .i64 0,.int .i64 0,.int .i64 0,.int .i64 0],ae rb 0 [.string s]] wr)) (fun cv _=>6 - (intOf cv).toNat)
 case atStart=>exact ⟨1,Nat.le_refl _,by omega,by go_num,keep rfl,H3⟩
 case round =>
  clear H3
  obtain ⟨c,hc1,hc6,rfl,HK,HR⟩:=hrel
  obtain ⟨wp,rfl⟩:∃ wp:World,wp=wr:=⟨_,rfl⟩
  by_cases hlt:c≤5
  ·have hlit:decide (1≤(c:Int)∧(c:Int)≤5)=true:=by simp; omega
   have HLIT:=keep hlit
   have hro:=HK.out.trans (pW (aK s i) c hc1 hlt)
   have hnl:=rH c hc1 hlt
   obtain ⟨x,hx⟩:=ex (aB[c]?.getD [])
   rw [hx] at hro hnl
   obtain ⟨hx4,hx7⟩:=hnl
   have HX:=keep hx
   have HRO:=keep hro
   have hxs:(⟨x.toArray⟩:ByteArray).size=x.length:=rfl
   have HXS:=keep hxs
   obtain ⟨n,hn⟩:=ex (x.length)
   rw [hn] at hx4 hx7 hxs
   have HN:=keep hn
   clear hx hro hlit hn
   by_cases hle:(i:Int)+(n:Int)≤s.size
   ·have hin:i+n≤s.size:=by omega
    have hex:(s.extract i (i+n)).data.toList=(aK s i).take n:=by
     rw [Lib.extract_data,Nat.add_sub_cancel_left]
     rfl
    have HEX:=keep hex
    have ht:((i:Int)+(n:Int)).toNat=i+n:=by omega
    have hiin:(i:Int)≤(i:Int)+n:=by omega
    clear hex
    have F5:=sE HR
    go_wp2_with fail
    refine (fy _ _).mono ?_
    rintro e w9 ⟨rfl,hw9⟩
    obtain rfl:wp=w9:=hw9.symm
    rw [HLIT.out]
    go_wp2_with fail
    refine cM (aU (c:Int) (by omega) (by omega) _) HR fun w6 H8=>?_
    clear F5 HR
    have F9:=sE H8
    go_wp2_with fail
    refine cM (ic (c:Int) (by omega) (by omega) _ (HW.out.below (al (Below.refl _ _) H8.out.bel))) H8 fun w10 H12=>?_
    rw [show ((c:Int)).toNat=c from Int.toNat_natCast c,HX.out]
    clear F9 H8
    have F13:=sE H12
    go_wp2_with fail
    refine cM (dY (s.extract i (i+n)) _ (by simp; omega)) H12 fun w14 H16=>?_
    rw [HEX.out]
    clear F13 H12
    have F17:=sE H16
    by_cases heq:((aK s i).take n).map upB=x
    ·have HE:=keep heq
     have hres:=HRO.out
     rw [HN.out,if_pos HE.out] at hres
     have HRES:=keep hres
     rw [HE.out]
     clear heq hres
     go_wp2_with fail
     exact e8_ [.int .i64 (n:Int)] H16 (fun W h=>by simp [results,results106,go_sem,h]) (fun h=>⟨by unfold jw; rw [HRES.out]; rfl,h⟩)
    have hres:=HRO.out
    rw [HN.out,if_neg heq] at hres
    have HRES:=keep hres
    have hsf:(List.take n (List.map upB (aK s i)) == x)=false:=by rw [← List.map_take]; simpa using heq
    clear heq hres
    go_wp2_with fail
    go_roundw
    case rel=>exact ⟨c+1,by omega,by omega,by go_num,keep HRES.out,H16⟩
    case measure=>simp [intOf]; omega
   have hres:=HRO.out
   rw [if_neg (by
    intro e
    have h9:=congrArg List.length e
    have hrl:(aK s i).length=s.size - i:=by unfold aK; rw [List.length_drop,Array.length_toList]; rfl
    rw [List.length_map,List.length_take,hrl,HN.out] at h9
    omega)] at hres
   have HRES:=keep hres
   clear hres
   have F5:=sE HR
   go_wp2_with fail
   refine (fy _ _).mono ?_
   rintro e w9 ⟨rfl,hw9⟩
   obtain rfl:wp=w9:=hw9.symm
   rw [HLIT.out]
   go_wp2_with fail
   refine cM (aU (c:Int) (by omega) (by omega) _) HR fun w6 H8=>?_
   clear F5 HR
   have F9:=sE H8
   go_wp2_with fail
   refine cM (ic (c:Int) (by omega) (by omega) _ (HW.out.below (al (Below.refl _ _) H8.out.bel))) H8 fun w10 H12=>?_
   rw [show ((c:Int)).toNat=c from Int.toNat_natCast c,HX.out]
   clear F9 H8
   have F13:=sE H12
   go_wp2_with fail
   go_roundw
   case rel=>exact ⟨c+1,by omega,by omega,by go_num,keep HRES.out,H12⟩
   case measure=>simp [intOf]; omega
  obtain rfl:c=6:=by omega
  have HLIT:=keep (show decide (1≤(6:Int)∧(6:Int)≤5)=false by decide)
  have HNO:=keep (show jw (aK s i) i=none by unfold jw; rw [HK.out]; rfl)
  have F5:=sE HR
  go_wp2_with fail
  refine (fy _ _).mono ?_
  rintro e w9 ⟨rfl,hw9⟩
  obtain rfl:wp=w9:=hw9.symm
  rw [HLIT.out]
  go_wp2_with fail
  exact e8_ [.int .i64 0] HR (fun W h=>by simp [results,results106,go_sem,h]) (fun h=>⟨by rw [HNO.out]; rfl,h⟩)
theorem kl (w:World) :
  Calls prog 165 #[] w fun e w'=>e=.returned (.tuple #[.slice (some ⟨w.heap.size,0,none⟩) 13 13,.slice (some ⟨w.heap.size+1,0,none⟩) 13 13])∧w'=((w.alloc (.cells mB.toArray 9)).alloc (.cells mA.toArray 2)):=by
 go_enter func165,ntmps165
 go_wp2_with fail
 exact bodyPost_ret (v:=.tuple #[.slice (some ⟨w.heap.size,0,none⟩) 13 13,.slice (some ⟨w.heap.size+1,0,none⟩) 13 13]) (by simp [results,results165,go_sem]) rfl ⟨rfl,rfl⟩
theorem mJ (s:ByteArray) (rb i:Nat) (w:World) (_hs:s.size≤300) (hi:i<s.size) (hr:w.cell? ⟨rb,0,none⟩=some (.string s)) :
  Calls prog 107 #[.pointer (some ⟨rb,0,none⟩),.int .i64 (i:Int)] w fun e w'=>e=.returned (fF (dP (aK s i) i))∧Below w.heap.size w w':=by
 have hh:=ey hr
 have H0:=Lib.hid hh
 clear hh
 have F1:=H0.out.sees
 simp only [sees,ae,ag,Nat.add_zero] at F1
 obtain ⟨⟨z0,c00,-⟩,-⟩:=F1
 go_enter func107,ntmps107
 go_wp2_with fail
 have y2:=z0
 clear z0 c00
 have H3:=Lib.hid (H0.out.var w.heap.size 97 [.int .u8 0,.int .i64 0,.string ⟨#[]⟩,.int .i64 0,.int .i64 0,.int .i64 0,.int .i64 0,.int .i64 0] rfl)
 clear H0
 generalize (w.alloc (.cells #[.int .u8 0,.int .i64 0,.string ⟨#[]⟩,.int .i64 0,.int .i64 0,.int .i64 0,.int .i64 0,.int .i64 0] 97))=W4 at H3 ⊢
 refine (kl _).mono ?_
 rintro e w5 ⟨rfl,hw5⟩
 have H5:=Lib.hid ((H3.out.alloc W4.heap.size 9 mB rfl).alloc (W4.heap.size+1) 2 mA (by simp))
 rw [← hw5] at H5
 clear hw5 H3
 obtain ⟨p,hp⟩:=ex (W4.heap.size)
 rw [hp] at H5 ⊢
 clear hp
 go_wp2_with fail
 go_loopw [16] (fun jv wr=>∃ j:Nat,j≤13∧jv=.int .i64 (j:Int)∧ao (∀ k,k<j→¬ pre (gW[k]?.getD []) (aK s i))∧Hid (Ok w [ac (p+1) 2 mA,ac p 9 mB,af (w.heap.size) 97 [.int .u8 0,.int .i64 0,.string ⟨#[]⟩,.int .i64 0,.int .i64 0,.int .i64 0,.int .i64 0,.int .i64 0],ae rb 0 [.string s]] wr)) (fun jv _=>13 - (intOf jv).toNat)
 case atStart=>exact ⟨0,by omega,rfl,keep (by intro k hk; omega),H5⟩
 case round =>
  clear H5
  obtain ⟨j,hj,rfl,HK,HR⟩:=hrel
  obtain ⟨wp,rfl⟩:∃ wp:World,wp=wr:=⟨_,rfl⟩
  by_cases hlt:(j:Int)<13
  ·have hj13:j<13:=by omega
   have hbT:=HR.out.get (ac p 9 mB) (by simp)
   have hbN:=HR.out.get (ac (p+1) 2 mA) (by simp)
   have hcT:wp.cell? ⟨p,j,none⟩=some (.string ⟨(gW[j]?.getD []).toArray⟩):=by
    rw [Blk.cell hbT j]
    have key:∀ j<13,mB.toArray[j]?=some (.string ⟨(gW[j]?.getD []).toArray⟩):=by
     intro j hj
     rcases (show j=0∨j=1∨j=2∨j=3∨j=4∨j=5∨j=6∨j=7∨j=8∨j=9∨j=10∨j=11∨j=12 by omega) with rfl | rfl | rfl | rfl | rfl | rfl | rfl | rfl | rfl | rfl | rfl | rfl | rfl <;> rfl
    exact key j hj13
   have hcN:wp.cell? ⟨p+1,j,none⟩=some (.int .i64 (rQ[j]?.getD 0)):=by
    rw [Blk.cell hbN j]
    have key:∀ j<13,mA.toArray[j]?=some (.int .i64 (rQ[j]?.getD 0)):=by
     intro j hj
     rcases (show j=0∨j=1∨j=2∨j=3∨j=4∨j=5∨j=6∨j=7∨j=8∨j=9∨j=10∨j=11∨j=12 by omega) with rfl | rfl | rfl | rfl | rfl | rfl | rfl | rfl | rfl | rfl | rfl | rfl | rfl <;> rfl
    exact key j hj13
   clear hbT hbN
   obtain ⟨x,hx⟩:=ex (gW[j]?.getD [])
   obtain ⟨v,hv⟩:=ex (rQ[j]?.getD 0)
   rw [hx] at hcT
   rw [hv] at hcN
   have HX:=keep hx
   have HV:=keep hv
   have hrs:(s.extract i s.size).data.toList=aK s i:=by rw [Lib.extract_to_end]; rfl
   have HRS:=keep hrs
   clear hx hv hrs
   have F5:=sE HR
   go_wp2_with fail
   refine (strings_HasPrefix _ _ _).mono ?_
   rintro e w6 ⟨rfl,hw6⟩
   obtain rfl:wp=w6:=hw6.symm
   rw [HRS.out,show (⟨x.toArray⟩:ByteArray).data.toList=x from rfl,vg]
   by_cases hpx:pre x (aK s i)
   ·have HRES:=keep (rZ (aK s i) j hj13 HK.out (by rw [HX.out]; exact hpx))
    rw [decide_eq_true hpx]
    clear hpx
    go_wp2_with fail
    exact e8_ [.int .i64 (x.length:Int)] HR (fun W h=>by simp [results,results107,go_sem,h]) (fun h=>⟨by unfold dP; rw [HRES.out,HV.out,HX.out]; rfl,h⟩)
   have hall:∀ k,k<j+1→¬ pre (gW[k]?.getD []) (aK s i):=by
    intro k hk
    rcases Nat.lt_succ_iff_lt_or_eq.1 hk with hk | rfl
    ·exact HK.out k hk
    rw [HX.out]; exact hpx
   have HALL:=keep hall
   rw [decide_eq_false hpx]
   clear hall hpx
   go_wp2_with fail
   go_roundw
   case rel=>exact ⟨j+1,by omega,by go_num,HALL,HR⟩
   case measure=>simp [intOf]; omega
  obtain rfl:j=13:=by omega
  have hrest:=qC (s[i]'hi) (s.data.toList.drop (i + 1)) (by rw [← eR hi]; exact HK.out)
  rw [← eR hi] at hrest
  have HRE:=keep hrest
  clear hrest hlt
  by_cases e40 : ((s[i]'hi).toNat : Int) = 40
  ·have HE:=keep (show s[i]'hi = 40 by rw [← UInt8.toNat_inj]; show _ = 40; omega)
   have hb40 : (((s[i]'hi).toNat : Int) == 40) = true:=by rw [e40]; rfl
   clear e40
   have F5:=sE HR
   go_wp2_with fail
   exact e8_ [.int .i64 1] HR (fun W h=>by simp [results,results107,go_sem,h]) (fun h=>⟨by unfold dP; rw [HRE.out,HE.out]; rfl,h⟩)
  have n40 : s[i]'hi ≠ 40:=by intro e; rw [e] at e40; exact e40 rfl
  have N40:=keep n40
  have hb40 : (((s[i]'hi).toNat : Int) == 40) = false:=by simpa using e40
  clear n40 e40
  by_cases e41 : ((s[i]'hi).toNat : Int) = 41
  ·have HE:=keep (show s[i]'hi = 41 by rw [← UInt8.toNat_inj]; show _ = 41; omega)
   have hb41 : (((s[i]'hi).toNat : Int) == 41) = true:=by rw [e41]; rfl
   clear e41
   have F5:=sE HR
   go_wp2_with fail
   exact e8_ [.int .i64 1] HR (fun W h=>by simp [results,results107,go_sem,h]) (fun h=>⟨by unfold dP; rw [HRE.out,HE.out]; rfl,h⟩)
  have n41 : s[i]'hi ≠ 41:=by intro e; rw [e] at e41; exact e41 rfl
  have N41:=keep n41
  have hb41 : (((s[i]'hi).toNat : Int) == 41) = false:=by simpa using e41
  clear n41 e41
  by_cases e44 : ((s[i]'hi).toNat : Int) = 44
  ·have HE:=keep (show s[i]'hi = 44 by rw [← UInt8.toNat_inj]; show _ = 44; omega)
   have hb44 : (((s[i]'hi).toNat : Int) == 44) = true:=by rw [e44]; rfl
   clear e44
   have F5:=sE HR
   go_wp2_with fail
   exact e8_ [.int .i64 1] HR (fun W h=>by simp [results,results107,go_sem,h]) (fun h=>⟨by unfold dP; rw [HRE.out,HE.out]; rfl,h⟩)
  have n44 : s[i]'hi ≠ 44:=by intro e; rw [e] at e44; exact e44 rfl
  have N44:=keep n44
  have hb44 : (((s[i]'hi).toNat : Int) == 44) = false:=by simpa using e44
  clear n44 e44
  have F5:=sE HR
  go_wp2_with fail
  exact e8_ [.int .i64 0] HR (fun W h=>by simp [results,results107,go_sem,h]) (fun h=>⟨by unfold dP; rw [HRE.out,if_neg N40.out,if_neg N41.out,if_neg N44.out]; rfl,h⟩)
open Go.RowKit
def gD:List Nd→Nat→List Nat→List Nat
 | [],_,rs=>rs
 | n::l,i,rs=>gD l (i+1) (rs.take (rs.length - aw n)++[i])
def aH (t:List Nd) (i:Nat):List Nat:=gD (t.take i) 0 []
def wD (rs:List Nat) (n:Nd):List Nat:=rs.drop (rs.length - aw n)
def ai (t:List Nd) (i:Nat):List Nat:=match t[i]? with
 | none=>[]
 | some n=>wD (aH t i) n
theorem jU:∀ (l:List Nd) (n:Nd) (i:Nat) (rs:List Nat),gD (l++[n]) i rs=(gD l i rs).take ((gD l i rs).length - aw n)++[i+l.length]
 | [],n,i,rs=>rfl
 | m::l,n,i,rs=>by
  show gD (l++[n]) (i+1) _=_
  rw [jU l n (i+1)]
  show _=(gD l (i+1) _).take _++[i+(l.length+1)]
  rw [show i+1+l.length=i+(l.length+1) by omega]
  rfl
theorem db {t:List Nd} {i:Nat} {n:Nd} (h:t[i]?=some n):aH t (i+1)=(aH t i).take ((aH t i).length - aw n)++[i]:=by
 obtain ⟨hi,hn⟩:=List.getElem?_eq_some_iff.1 h
 unfold aH
 rw [List.take_succ_eq_append_getElem hi,hn,jU,List.length_take,Nat.min_eq_left (by omega),Nat.zero_add]
theorem dy {t:List Nd} {i:Nat} {n:Nd} (h:t[i]?=some n):ai t i=(aH t i).drop ((aH t i).length - aw n):=by
 unfold ai
 rw [h]; rfl
theorem rX (t:List Nd):∀ i,(aH t i).Pairwise (· < ·)∧∀ r∈aH t i,r<i:=by
 intro i
 induction i with
 | zero=>exact ⟨.nil,by intro r hr; cases hr⟩
 | succ i ih =>
  cases h:t[i]? with
  | none =>
   have hl:t.length≤i:=List.getElem?_eq_none_iff.1 h
   have e:aH t (i+1)=aH t i:=by unfold aH; rw [List.take_of_length_le hl,List.take_of_length_le (by omega)]
   rw [e]
   exact ⟨ih.1,fun r hr=>Nat.lt_succ_of_lt (ih.2 r hr)⟩
  | some n =>
   rw [db h]
   refine ⟨List.pairwise_append.2 ⟨ih.1.sublist (List.take_sublist _ _),List.pairwise_singleton _ _,fun a ha b hb => ?_⟩,fun r hr => ?_⟩
   ·rw [List.mem_singleton] at hb; subst hb
    exact ih.2 a (List.mem_of_mem_take ha)
   rcases List.mem_append.1 hr with hr | hr
   ·exact Nat.lt_succ_of_lt (ih.2 r (List.mem_of_mem_take hr))
   rw [List.mem_singleton] at hr; omega
theorem eK (t:List Nd) (i:Nat):∀ k∈ai t i,k<i:=by
 intro k hk
 unfold ai at hk
 split at hk
 ·cases hk
 exact (rX t i).2 k (List.mem_of_mem_drop hk)
def aR (t:List Nd) (i:Nat):Tx:=((txW (t.take (i+1)) []).getLast?).getD ([],8)
theorem eG:∀ (l:List Nd) (n:Nd) (xs:List Tx),txW (l++[n]) xs=(txW l xs).take ((txW l xs).length - aw n)++[gn n ((txW l xs).drop ((txW l xs).length - aw n))]
 | [],_,_=>rfl
 | _::l,n,_=>eG l n _
theorem j9 (t:List Nd):∀ i,i≤t.length→txW (t.take i) []=(aH t i).map (aR t)∧∀ n,t[i]?=some n→aR t i=gn n ((ai t i).map (aR t)):=by
 intro i
 induction i with
 | zero =>
  intro _
  refine ⟨rfl,fun n hn => ?_⟩
  obtain ⟨hi,e⟩:=List.getElem?_eq_some_iff.1 hn
  have e1:aR t 0=((txW (t.take 1) []).getLast?).getD ([],8):=rfl
  have e2:t.take 1=[n]:=by
   have:=List.take_succ_eq_append_getElem hi
   rw [e] at this
   simpa using this
  rw [e1,e2,dy hn,show aH t 0=[] from rfl,List.drop_nil]
  show (([]:List Tx).take (0 - aw n)++[_]).getLast?.getD _=_
  rw [List.take_nil]
  show gn n (List.drop (0 - aw n) [])=_
  rw [List.drop_nil]
  rfl
 | succ i ih =>
  intro hi
  obtain ⟨n,hn⟩:∃ n,t[i]?=some n:=⟨_,List.getElem?_eq_getElem (by omega)⟩
  obtain ⟨h1,h2⟩:=ih (by omega)
  obtain ⟨hl,e⟩:=List.getElem?_eq_some_iff.1 hn
  have h3:txW (t.take (i+1)) []=(aH t (i+1)).map (aR t):=by
   rw [db hn,List.map_append,List.take_succ_eq_append_getElem hl,e,eG,h1]
   simp only [List.length_map,List.map_take,List.map_cons,List.map_nil]
   rw [h2 n hn,dy hn,List.map_drop]
  refine ⟨h3,fun m hm => ?_⟩
  obtain ⟨hl2,e2⟩:=List.getElem?_eq_some_iff.1 hm
  show ((txW (t.take (i+1+1)) []).getLast?).getD ([],8)=_
  rw [List.take_succ_eq_append_getElem hl2,e2,eG,h3,dy hm]
  simp only [List.length_map]
  rw [List.map_drop]
  simp
theorem j8 {t:List Nd} {i:Nat} {n:Nd} (h:t[i]?=some n):aR t i=gn n ((ai t i).map (aR t)) :=
 (j9 t i (Nat.le_of_lt (List.getElem?_eq_some_iff.1 h).1)).2 n h
