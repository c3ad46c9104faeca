/- The contracts of the lexer's fail and sign. Plain: every checked tree has canonical tokens, which are lexed and parsed back. No program stands here. Plain: the canonical text of a checked tree has its canonical tokens, and these are parsed as the tree. No program stands here. Plain: the canonical text as a function of the nodes. No program stands here. -/
import Derived.Test.YthdmpajkacmkdaaGreatDoorGLexG
import Derived.Test.YthdmpajkacmkdaaGreatDoorGTg
import Derived.Test.YthdmpajkacmkdaaGreatDoorGLexJ
import Derived.Test.YthdmpajkacmkdaaGreatDoorGLexP
import Derived.Test.YthdmpajkacmkdaaGreatDoorGVal
import Derived.Lib.Strings
import Derived.Laws.Strings3
import Derived.Deep.DeepCutAuto
import Derived.Test.YthdmpajkacmkdaaGreatDoorGShR
namespace Go.Proofs.YthdmpajkacmkdaaGreatDoor
set_option maxRecDepth 100000
set_option maxHeartbeats 4000000
open Go.RowKit Go.Proofs.Tryz
theorem gR (c:Int) (w:World) :
  Calls prog 108 #[.int .i64 c] w fun e w'=>e=.returned (.bool (decide (1≤c∧c≤5)))∧w'=w:=by
 by_cases h1:1≤c
 ·go_enter func108,ntmps108
  go_wp2_with fail
  go_ret
  exact ⟨by simp; omega,rfl⟩
 go_enter func108,ntmps108
 go_wp2_with fail
 go_ret
 exact ⟨by simp; omega,rfl⟩
def lO (l:List UInt8) (i:Nat):Option (Tk×Nat):=(ja l).map fun x=>(⟨4,x.1,[],R4.zero,i⟩,x.2)
theorem td (l:List UInt8) (c:Nat) (h1:1≤c) (h5:c≤5):nI l (bD.drop (c - 1)) c =
  if (l.take (bJ[c]?.getD []).length).map upB=bJ[c]?.getD [] then some (c,(bJ[c]?.getD []).length) else nI l (bD.drop c) (c+1):=by
 rcases (show c=1∨c=2∨c=3∨c=4∨c=5 by omega) with rfl | rfl | rfl | rfl | rfl <;> rfl
theorem vx (c:Nat) (h1:1≤c) (h5:c≤5):4≤(bJ[c]?.getD []).length∧(bJ[c]?.getD []).length≤7:=by
 rcases (show c=1∨c=2∨c=3∨c=4∨c=5 by omega) with rfl | rfl | rfl | rfl | rfl <;> decide
theorem qC (s p:ByteArray) (w:World) :
  Calls prog 133 #[.string s,.string p] w fun e w'=>e=.returned (.bool (Lib.hasPrefix s.data.toList p.data.toList))∧w'=w:=by
 rw [← Lib.hasPrefix_of_take,← Lib.size_eq,← Lib.size_eq]
 go_enter func133,ntmps133
 go_wp2
 ·rename_i h
  go_ret
  refine ⟨?_,rfl⟩
  show Ending.returned (Value.bool ((s.extract 0 p.size).toList == p.toList))=_
  rw [Lib.extract_toList,Lib.toList_data]
  simp [h]
 rename_i h
 go_ret
 refine ⟨?_,rfl⟩
 show Ending.returned (Value.bool false)=_
 simp [h]
theorem strings_HasPrefix (s p:ByteArray) (w:World) :
  Calls prog 88 #[.string s,.string p] w fun e w'=>e=.returned (.bool (Lib.hasPrefix s.data.toList p.data.toList))∧w'=w:=by
 go_enter func88,ntmps88
 go_wp2_with fail
 refine (qC _ _ _).mono ?_
 rintro e w1 ⟨rfl,rfl⟩
 go_wp2_with fail
 go_ret
 exact ⟨rfl,rfl⟩
def jD:List (List UInt8):=[[60,62],[60,61],[62,61],[43],[45],[42],[47],[94],[38],[61],[60],[62],[37]]
def vH:List Int:=[8,10,12,1,2,3,4,5,6,7,9,11,13]
def oY:List Value:=jD.map fun x=>.string ⟨x.toArray⟩
def oX:List Value:=vH.map fun x=>.int .i64 x
def eT (l:List UInt8) (i:Nat):Option (Tk×Nat):=(opS l).map fun x=>(⟨x.1,x.2.1,[],R4.zero,i⟩,x.2.2)
def pre (x l:List UInt8):Prop:=l.take x.length=x
instance (x l:List UInt8):Decidable (pre x l):=inferInstanceAs (Decidable (l.take x.length=x))
theorem yV (l x:List UInt8):Lib.hasPrefix l x=decide (pre x l):=by
 unfold pre
 rw [← Lib.hasPrefix_of_take]
 by_cases h:l.take x.length=x
 ·have h2:x.length≤l.length:=by have h3:=congrArg List.length h; rw [List.length_take] at h3; omega
  simp [h,h2]
 simp [h]
theorem bc (a:UInt8) (x l:List UInt8):pre (a::x) l↔∃ r,l=a::r∧pre x r:=by
 unfold pre
 cases l with
 | nil=>simp
 | cons b r =>
  simp only [List.length_cons,List.take_succ_cons,List.cons.injEq]
  constructor
  ·rintro ⟨rfl,h⟩
   exact ⟨r,⟨rfl,rfl⟩,h⟩
  rintro ⟨q,⟨rfl,rfl⟩,h⟩
  exact ⟨rfl,h⟩
theorem we (l:List UInt8) (i:Nat) (hj:i<13) (hp:∀ k,k<i→¬ pre (jD[k]?.getD []) l) (h:pre (jD[i]?.getD []) l) :
  opS l=some (8,vH[i]?.getD 0,(jD[i]?.getD []).length):=by
 have h0:∀ x,jD[0]?.getD []=x→0<i→¬ pre x l:=by rintro x rfl h; exact hp 0 h
 have h1:∀ x,jD[1]?.getD []=x→1<i→¬ pre x l:=by rintro x rfl h; exact hp 1 h
 have h2:∀ x,jD[2]?.getD []=x→2<i→¬ pre x l:=by rintro x rfl h; exact hp 2 h
 have h0:=h0 _ rfl
 have h1:=h1 _ rfl
 have h2:=h2 _ rfl
 clear hp
 rcases (show i=0∨i=1∨i=2∨i=3∨i=4∨i=5∨i=6∨i=7∨i=8∨i=9∨i=10∨i=11∨i=12 by omega) with rfl | rfl | rfl | rfl | rfl | rfl | rfl | rfl | rfl | rfl | rfl | rfl | rfl
 ·obtain ⟨r,rfl,hr⟩:=(bc _ _ _).1 h
  obtain ⟨r,rfl,_⟩:=(bc _ _ _).1 hr
  rfl
 ·obtain ⟨r,rfl,hr⟩:=(bc _ _ _).1 h
  obtain ⟨r,rfl,_⟩:=(bc _ _ _).1 hr
  rfl
 ·obtain ⟨r,rfl,hr⟩:=(bc _ _ _).1 h
  obtain ⟨r,rfl,_⟩:=(bc _ _ _).1 hr
  rfl
 ·obtain ⟨r,rfl,hr⟩:=(bc _ _ _).1 h
  rfl
 ·obtain ⟨r,rfl,hr⟩:=(bc _ _ _).1 h
  rfl
 ·obtain ⟨r,rfl,hr⟩:=(bc _ _ _).1 h
  rfl
 ·obtain ⟨r,rfl,hr⟩:=(bc _ _ _).1 h
  rfl
 ·obtain ⟨r,rfl,hr⟩:=(bc _ _ _).1 h
  rfl
 ·obtain ⟨r,rfl,hr⟩:=(bc _ _ _).1 h
  rfl
 ·obtain ⟨r,rfl,hr⟩:=(bc _ _ _).1 h
  rfl
 ·obtain ⟨r,rfl,hr⟩:=(bc _ _ _).1 h
  have h0:=h0 (by decide)
  have h1:=h1 (by decide)
  rw [ci,if_pos rfl,if_neg,if_neg]
  ·rfl
  ·intro e
   cases r with
   | nil=>simp at e
   | cons c r=>simp at e; subst e; exact h1 ((bc _ _ _).2 ⟨_,rfl,(bc _ _ _).2 ⟨_,rfl,rfl⟩⟩)
  intro e
  cases r with
  | nil=>simp at e
  | cons c r=>simp at e; subst e; exact h0 ((bc _ _ _).2 ⟨_,rfl,(bc _ _ _).2 ⟨_,rfl,rfl⟩⟩)
 ·obtain ⟨r,rfl,hr⟩:=(bc _ _ _).1 h
  have h2:=h2 (by decide)
  rw [ci,if_neg (by decide),if_pos rfl,if_neg]
  ·rfl
  intro e
  cases r with
  | nil=>simp at e
  | cons c r=>simp at e; subst e; exact h2 ((bc _ _ _).2 ⟨_,rfl,(bc _ _ _).2 ⟨_,rfl,rfl⟩⟩)
 obtain ⟨r,rfl,hr⟩:=(bc _ _ _).1 h
 rfl
theorem tX (b:UInt8) (r:List UInt8) (hp:∀ k,k<13→¬ pre (jD[k]?.getD []) (b::r)):opS (b::r)=if b=40 then some (9,0,1) else if b=41 then some (10,0,1) else if b=44 then some (11,0,1) else none:=by
 have one:∀ c:UInt8,∀ k,k<13→jD[k]?.getD []=[c]→b≠c:=by
  intro c k hk hc e
  subst e
  exact hp k hk (by rw [hc]; exact (bc _ _ _).2 ⟨_,rfl,rfl⟩)
 have a1:=one 43 3 (by decide) rfl
 have a2:=one 45 4 (by decide) rfl
 have a3:=one 42 5 (by decide) rfl
 have a4:=one 47 6 (by decide) rfl
 have a5:=one 94 7 (by decide) rfl
 have a6:=one 38 8 (by decide) rfl
 have a7:=one 61 9 (by decide) rfl
 have a8:=one 60 10 (by decide) rfl
 have a9:=one 62 11 (by decide) rfl
 have a10:=one 37 12 (by decide) rfl
 rw [ci,if_neg a8,if_neg a9]
 have e:∀ c:UInt8,b≠c→(c == b)=false:=fun c h=>by simpa using fun e=>h e.symm
 by_cases b1:b=40
 ·subst b1; rfl
 by_cases b2:b=41
 ·subst b2; rfl
 by_cases b3:b=44
 ·subst b3; rfl
 rw [if_neg b1,if_neg b2,if_neg b3]
 unfold op1 kS
 simp only [List.find?_cons,e 43 a1,e 45 a2,e 42 a3,e 47 a4,e 94 a5,e 38 a6,e 61 a7,e 37 a10,e 40 b1,e 41 b2,e 44 b3,List.find?_nil,Option.map_none]
theorem pq (s:ByteArray) (rb i:Nat) (w:World) (hs:s.size≤300) (hi:i<s.size) (hw:Words w) (hr:w.cell? ⟨rb,0,none⟩=some (.string s)) :
  Calls prog 70 #[.pointer (some ⟨rb,0,none⟩),.int .i64 (i:Int)] w fun e w'=>e=.returned (hH (lO (aV s i) i))∧Below w.heap.size w w':=by
 have hh:=fH hr
 have H0:=Lib.hid hh
 have HW:=Lib.hid hw
 clear hh hw
 have F1:=H0.out.sees
 simp only [sees,aa,ag,Nat.add_zero] at F1
 obtain ⟨⟨z0,c00,-⟩,-⟩:=F1
 go_enter func70,ntmps70
 go_wp2_with fail
 have y2:=z0
 clear z0 c00
 have H3:=Lib.hid (H0.out.var w.heap.size 66 [.int .u8 0,.int .i64 0,.string ⟨#[]⟩,.int .i64 0,.int .i64 0,.int .i64 0,.int .i64 0,.int .i64 0] rfl)
 clear H0
 generalize (w.alloc (.cells #[.int .u8 0,.int .i64 0,.string ⟨#[]⟩,.int .i64 0,.int .i64 0,.int .i64 0,.int .i64 0,.int .i64 0] 66))=W4 at H3 ⊢
 go_loopw [6] (fun cv wr=>∃ c:Nat,1≤c∧c≤6∧cv=.int .i64 (c:Int)∧bh (ja (aV s i)=nI (aV s i) (bD.drop (c - 1)) c)∧Hid (Ok w [ah (w.heap.size) 66 [.int .u8 0,.int .i64 0,.string ⟨#[]⟩,.int .i64 0,.int .i64 0,.int .i64 0,.int .i64 0,.int .i64 0],aa rb 0 [.string s]] wr)) (fun cv _=>6 - (intOf cv).toNat)
 case atStart=>exact ⟨1,Nat.le_refl _,by omega,by go_num,keep rfl,H3⟩
 case round =>
  clear H3
  obtain ⟨c,hc1,hc6,rfl,HK,HR⟩:=hrel
  obtain ⟨wp,rfl⟩:∃ wp:World,wp=wr:=⟨_,rfl⟩
  by_cases hlt:c≤5
  ·have hlit:decide (1≤(c:Int)∧(c:Int)≤5)=true:=by simp; omega
   have HLIT:=keep hlit
   have hro:=HK.out.trans (td (aV s i) c hc1 hlt)
   have hnl:=vx c hc1 hlt
   obtain ⟨x,hx⟩:=ex (bJ[c]?.getD [])
   rw [hx] at hro hnl
   obtain ⟨hx4,hx7⟩:=hnl
   have HX:=keep hx
   have HRO:=keep hro
   have hxs:(⟨x.toArray⟩:ByteArray).size=x.length:=rfl
   have HXS:=keep hxs
   obtain ⟨n,hn⟩:=ex (x.length)
   rw [hn] at hx4 hx7 hxs
   have HN:=keep hn
   clear hx hro hlit hn
   by_cases hle:(i:Int)+(n:Int)≤s.size
   ·have hin:i+n≤s.size:=by omega
    have hex:(s.extract i (i+n)).data.toList=(aV s i).take n:=by
     rw [Lib.extract_data,Nat.add_sub_cancel_left]
     rfl
    have HEX:=keep hex
    have ht:((i:Int)+(n:Int)).toNat=i+n:=by omega
    have hiin:(i:Int)≤(i:Int)+n:=by omega
    clear hex
    have F5:=sE HR
    go_wp2_with fail
    refine (gR _ _).mono ?_
    rintro e w9 ⟨rfl,hw9⟩
    obtain rfl:wp=w9:=hw9.symm
    rw [HLIT.out]
    go_wp2_with fail
    refine cM (fA (c:Int) (by omega) (by omega) _) HR fun w6 H8=>?_
    clear F5 HR
    have F9:=sE H8
    go_wp2_with fail
    refine cM (mc (c:Int) (by omega) (by omega) _ (HW.out.below (an (Below.refl _ _) H8.out.bel))) H8 fun w10 H12=>?_
    rw [show ((c:Int)).toNat=c from Int.toNat_natCast c,HX.out]
    clear F9 H8
    have F13:=sE H12
    go_wp2_with fail
    refine cM (kO (s.extract i (i+n)) _ (by simp; omega)) H12 fun w14 H16=>?_
    rw [HEX.out]
    clear F13 H12
    have F17:=sE H16
    by_cases heq:((aV s i).take n).map upB=x
    ·have HE:=keep heq
     have hres:=HRO.out
     rw [HN.out,if_pos HE.out] at hres
     have HRES:=keep hres
     rw [HE.out]
     clear heq hres
     go_wp2_with fail
     have hK:=H16.out.get (ah (w.heap.size) 66 [.int .u8 0,.int .i64 0,.string ⟨#[]⟩,.int .i64 0,.int .i64 0,.int .i64 0,.int .i64 0,.int .i64 0]) (by simp)
     have hB:=H16.out.bel
     have hE:=(((((((((show Blk w14 (w.heap.size) 66 _ from hK).set_ 0 (.int .u8 4)).set_ 1 (.int .i64 (c:Int))).set_ 2 (.string ⟨#[]⟩)).set_ 3 (.int .i64 0)).set_ 4 (.int .i64 0)).set_ 5 (.int .i64 0)).set_ 6 (.int .i64 0)).set_ 7 (.int .i64 (i:Int)))
     refine bodyPost_ret (v:=.tuple #[.agg #[.int .u8 4,.int .i64 (c:Int),.string ⟨#[]⟩,.int .i64 0,.int .i64 0,.int .i64 0,.int .i64 0,.int .i64 (i:Int)],.int .i64 (n:Int)]) (by simp [results,results70,go_sem,hE.cell]) rfl ⟨by unfold lO; rw [HRES.out]; rfl,(sC (sC (sC (sC (sC (sC (sC (sC hB _) _) _) _) _) _) _) _)⟩
    have hres:=HRO.out
    rw [HN.out,if_neg heq] at hres
    have HRES:=keep hres
    have hsf:(List.take n (List.map upB (aV s i)) == x)=false:=by rw [← List.map_take]; simpa using heq
    clear heq hres
    go_wp2_with fail
    go_roundw
    case rel=>exact ⟨c+1,by omega,by omega,by go_num,keep HRES.out,H16⟩
    case measure=>simp [intOf]; omega
   have hres:=HRO.out
   rw [if_neg (by
    intro e
    have h9:=congrArg List.length e
    have hrl:(aV s i).length=s.size - i:=by unfold aV; rw [List.length_drop,Array.length_toList]; rfl
    rw [List.length_map,List.length_take,hrl,HN.out] at h9
    omega)] at hres
   have HRES:=keep hres
   clear hres
   have F5:=sE HR
   go_wp2_with fail
   refine (gR _ _).mono ?_
   rintro e w9 ⟨rfl,hw9⟩
   obtain rfl:wp=w9:=hw9.symm
   rw [HLIT.out]
   go_wp2_with fail
   refine cM (fA (c:Int) (by omega) (by omega) _) HR fun w6 H8=>?_
   clear F5 HR
   have F9:=sE H8
   go_wp2_with fail
   refine cM (mc (c:Int) (by omega) (by omega) _ (HW.out.below (an (Below.refl _ _) H8.out.bel))) H8 fun w10 H12=>?_
   rw [show ((c:Int)).toNat=c from Int.toNat_natCast c,HX.out]
   clear F9 H8
   have F13:=sE H12
   go_wp2_with fail
   go_roundw
   case rel=>exact ⟨c+1,by omega,by omega,by go_num,keep HRES.out,H12⟩
   case measure=>simp [intOf]; omega
  obtain rfl:c=6:=by omega
  have HLIT:=keep (show decide (1≤(6:Int)∧(6:Int)≤5)=false by decide)
  have HNO:=keep (show lO (aV s i) i=none by unfold lO; rw [HK.out]; rfl)
  have F5:=sE HR
  go_wp2_with fail
  refine (gR _ _).mono ?_
  rintro e w9 ⟨rfl,hw9⟩
  obtain rfl:wp=w9:=hw9.symm
  rw [HLIT.out]
  go_wp2_with fail
  have hK:=HR.out.get (ah (w.heap.size) 66 [.int .u8 0,.int .i64 0,.string ⟨#[]⟩,.int .i64 0,.int .i64 0,.int .i64 0,.int .i64 0,.int .i64 0]) (by simp)
  have hB:=HR.out.bel
  have hE:=(((((((((show Blk wp (w.heap.size) 66 _ from hK).set_ 0 (.int .u8 0)).set_ 1 (.int .i64 0)).set_ 2 (.string ⟨#[]⟩)).set_ 3 (.int .i64 0)).set_ 4 (.int .i64 0)).set_ 5 (.int .i64 0)).set_ 6 (.int .i64 0)).set_ 7 (.int .i64 0))
  refine bodyPost_ret (v:=.tuple #[.agg #[.int .u8 0,.int .i64 0,.string ⟨#[]⟩,.int .i64 0,.int .i64 0,.int .i64 0,.int .i64 0,.int .i64 0],.int .i64 0]) (by simp [results,results70,go_sem,hE.cell]) rfl ⟨by rw [HNO.out]; rfl,(sC (sC (sC (sC (sC (sC (sC (sC hB _) _) _) _) _) _) _) _)⟩
theorem mz (w:World) :
  Calls prog 110 #[] w fun e w'=>e=.returned (.tuple #[.slice (some ⟨w.heap.size,0,none⟩) 13 13,.slice (some ⟨w.heap.size+1,0,none⟩) 13 13])∧w'=((w.alloc (.cells oY.toArray 9)).alloc (.cells oX.toArray 2)):=by
 go_enter func110,ntmps110
 go_wp2_with fail
 exact bodyPost_ret (v:=.tuple #[.slice (some ⟨w.heap.size,0,none⟩) 13 13,.slice (some ⟨w.heap.size+1,0,none⟩) 13 13]) (by simp [results,results110,go_sem]) rfl ⟨rfl,rfl⟩
theorem pt (s:ByteArray) (rb i:Nat) (w:World) (_hs:s.size≤300) (hi:i<s.size) (hr:w.cell? ⟨rb,0,none⟩=some (.string s)) :
  Calls prog 71 #[.pointer (some ⟨rb,0,none⟩),.int .i64 (i:Int)] w fun e w'=>e=.returned (hH (eT (aV s i) i))∧Below w.heap.size w w':=by
 have hh:=fH hr
 have H0:=Lib.hid hh
 clear hh
 have F1:=H0.out.sees
 simp only [sees,aa,ag,Nat.add_zero] at F1
 obtain ⟨⟨z0,c00,-⟩,-⟩:=F1
 go_enter func71,ntmps71
 go_wp2_with fail
 have y2:=z0
 clear z0 c00
 have H3:=Lib.hid (H0.out.var w.heap.size 66 [.int .u8 0,.int .i64 0,.string ⟨#[]⟩,.int .i64 0,.int .i64 0,.int .i64 0,.int .i64 0,.int .i64 0] rfl)
 clear H0
 generalize (w.alloc (.cells #[.int .u8 0,.int .i64 0,.string ⟨#[]⟩,.int .i64 0,.int .i64 0,.int .i64 0,.int .i64 0,.int .i64 0] 66))=W4 at H3 ⊢
 refine (mz _).mono ?_
 rintro e w5 ⟨rfl,hw5⟩
 have H5:=Lib.hid ((H3.out.alloc W4.heap.size 9 oY rfl).alloc (W4.heap.size+1) 2 oX (by simp))
 rw [← hw5] at H5
 clear hw5 H3
 obtain ⟨p,hp⟩:=ex (W4.heap.size)
 rw [hp] at H5 ⊢
 clear hp
 go_wp2_with fail
 go_loopw [16] (fun jv wr=>∃ j:Nat,j≤13∧jv=.int .i64 (j:Int)∧bh (∀ k,k<j→¬ pre (jD[k]?.getD []) (aV s i))∧Hid (Ok w [af (p+1) 2 oX,af p 9 oY,ah (w.heap.size) 66 [.int .u8 0,.int .i64 0,.string ⟨#[]⟩,.int .i64 0,.int .i64 0,.int .i64 0,.int .i64 0,.int .i64 0],aa rb 0 [.string s]] wr)) (fun jv _=>13 - (intOf jv).toNat)
 case atStart=>exact ⟨0,by omega,rfl,keep (by intro k hk; omega),H5⟩
 case round =>
  clear H5
  obtain ⟨j,hj,rfl,HK,HR⟩:=hrel
  obtain ⟨wp,rfl⟩:∃ wp:World,wp=wr:=⟨_,rfl⟩
  by_cases hlt:(j:Int)<13
  ·have hj13:j<13:=by omega
   have hbT:=HR.out.get (af p 9 oY) (by simp)
   have hbN:=HR.out.get (af (p+1) 2 oX) (by simp)
   have hcT:wp.cell? ⟨p,j,none⟩=some (.string ⟨(jD[j]?.getD []).toArray⟩):=by
    rw [Blk.cell hbT j]
    have key:∀ j<13,oY.toArray[j]?=some (.string ⟨(jD[j]?.getD []).toArray⟩):=by
     intro j hj
     rcases (show j=0∨j=1∨j=2∨j=3∨j=4∨j=5∨j=6∨j=7∨j=8∨j=9∨j=10∨j=11∨j=12 by omega) with rfl | rfl | rfl | rfl | rfl | rfl | rfl | rfl | rfl | rfl | rfl | rfl | rfl <;> rfl
    exact key j hj13
   have hcN:wp.cell? ⟨p+1,j,none⟩=some (.int .i64 (vH[j]?.getD 0)):=by
    rw [Blk.cell hbN j]
    have key:∀ j<13,oX.toArray[j]?=some (.int .i64 (vH[j]?.getD 0)):=by
     intro j hj
     rcases (show j=0∨j=1∨j=2∨j=3∨j=4∨j=5∨j=6∨j=7∨j=8∨j=9∨j=10∨j=11∨j=12 by omega) with rfl | rfl | rfl | rfl | rfl | rfl | rfl | rfl | rfl | rfl | rfl | rfl | rfl <;> rfl
    exact key j hj13
   clear hbT hbN
   obtain ⟨x,hx⟩:=ex (jD[j]?.getD [])
   obtain ⟨v,hv⟩:=ex (vH[j]?.getD 0)
   rw [hx] at hcT
   rw [hv] at hcN
   have HX:=keep hx
   have HV:=keep hv
   have hrs:(s.extract i s.size).data.toList=aV s i:=by rw [Lib.extract_to_end]; rfl
   have HRS:=keep hrs
   clear hx hv hrs
   have F5:=sE HR
   go_wp2_with fail
   refine (strings_HasPrefix _ _ _).mono ?_
   rintro e w6 ⟨rfl,hw6⟩
   obtain rfl:wp=w6:=hw6.symm
   rw [HRS.out,show (⟨x.toArray⟩:ByteArray).data.toList=x from rfl,yV]
   by_cases hpx:pre x (aV s i)
   ·have HRES:=keep (we (aV s i) j hj13 HK.out (by rw [HX.out]; exact hpx))
    rw [decide_eq_true hpx]
    clear hpx
    go_wp2_with fail
    have hK:=HR.out.get (ah (w.heap.size) 66 [.int .u8 0,.int .i64 0,.string ⟨#[]⟩,.int .i64 0,.int .i64 0,.int .i64 0,.int .i64 0,.int .i64 0]) (by simp)
    have hB:=HR.out.bel
    have hE:=(((((((((show Blk wp (w.heap.size) 66 _ from hK).set_ 0 (.int .u8 8)).set_ 1 (.int .i64 v)).set_ 2 (.string ⟨#[]⟩)).set_ 3 (.int .i64 0)).set_ 4 (.int .i64 0)).set_ 5 (.int .i64 0)).set_ 6 (.int .i64 0)).set_ 7 (.int .i64 (i:Int)))
    refine bodyPost_ret (v:=.tuple #[.agg #[.int .u8 8,.int .i64 v,.string ⟨#[]⟩,.int .i64 0,.int .i64 0,.int .i64 0,.int .i64 0,.int .i64 (i:Int)],.int .i64 (x.length:Int)]) (by simp [results,results71,go_sem,hE.cell]) rfl ⟨by unfold eT; rw [HRES.out,HV.out,HX.out]; rfl,(sC (sC (sC (sC (sC (sC (sC (sC hB _) _) _) _) _) _) _) _)⟩
   have hall:∀ k,k<j+1→¬ pre (jD[k]?.getD []) (aV s i):=by
    intro k hk
    rcases Nat.lt_succ_iff_lt_or_eq.1 hk with hk | rfl
    ·exact HK.out k hk
    rw [HX.out]; exact hpx
   have HALL:=keep hall
   rw [decide_eq_false hpx]
   clear hall hpx
   go_wp2_with fail
   go_roundw
   case rel=>exact ⟨j+1,by omega,by go_num,HALL,HR⟩
   case measure=>simp [intOf]; omega
  obtain rfl:j=13:=by omega
  have hrest:=tX (s[i]'hi) (s.data.toList.drop (i + 1)) (by rw [← gh hi]; exact HK.out)
  rw [← gh hi] at hrest
  have HRE:=keep hrest
  clear hrest hlt
  by_cases e40 : ((s[i]'hi).toNat : Int) = 40
  ·have HE:=keep (show s[i]'hi = 40 by rw [← UInt8.toNat_inj]; show _ = 40; omega)
   have hb40 : (((s[i]'hi).toNat : Int) == 40) = true:=by rw [e40]; rfl
   clear e40
   have F5:=sE HR
   go_wp2_with fail
   have hK:=HR.out.get (ah (w.heap.size) 66 [.int .u8 0,.int .i64 0,.string ⟨#[]⟩,.int .i64 0,.int .i64 0,.int .i64 0,.int .i64 0,.int .i64 0]) (by simp)
   have hB:=HR.out.bel
   have hE:=(((((((((show Blk wp (w.heap.size) 66 _ from hK).set_ 0 (.int .u8 9)).set_ 1 (.int .i64 0)).set_ 2 (.string ⟨#[]⟩)).set_ 3 (.int .i64 0)).set_ 4 (.int .i64 0)).set_ 5 (.int .i64 0)).set_ 6 (.int .i64 0)).set_ 7 (.int .i64 (i:Int)))
   refine bodyPost_ret (v:=.tuple #[.agg #[.int .u8 9,.int .i64 0,.string ⟨#[]⟩,.int .i64 0,.int .i64 0,.int .i64 0,.int .i64 0,.int .i64 (i:Int)],.int .i64 1]) (by simp [results,results71,go_sem,hE.cell]) rfl ⟨by unfold eT; rw [HRE.out,HE.out]; rfl,(sC (sC (sC (sC (sC (sC (sC (sC hB _) _) _) _) _) _) _) _)⟩
  have n40 : s[i]'hi ≠ 40:=by intro e; rw [e] at e40; exact e40 rfl
  have N40:=keep n40
  have hb40 : (((s[i]'hi).toNat : Int) == 40) = false:=by simpa using e40
  clear n40 e40
  by_cases e41 : ((s[i]'hi).toNat : Int) = 41
  ·have HE:=keep (show s[i]'hi = 41 by rw [← UInt8.toNat_inj]; show _ = 41; omega)
   have hb41 : (((s[i]'hi).toNat : Int) == 41) = true:=by rw [e41]; rfl
   clear e41
   have F5:=sE HR
   go_wp2_with fail
   have hK:=HR.out.get (ah (w.heap.size) 66 [.int .u8 0,.int .i64 0,.string ⟨#[]⟩,.int .i64 0,.int .i64 0,.int .i64 0,.int .i64 0,.int .i64 0]) (by simp)
   have hB:=HR.out.bel
   have hE:=(((((((((show Blk wp (w.heap.size) 66 _ from hK).set_ 0 (.int .u8 10)).set_ 1 (.int .i64 0)).set_ 2 (.string ⟨#[]⟩)).set_ 3 (.int .i64 0)).set_ 4 (.int .i64 0)).set_ 5 (.int .i64 0)).set_ 6 (.int .i64 0)).set_ 7 (.int .i64 (i:Int)))
   refine bodyPost_ret (v:=.tuple #[.agg #[.int .u8 10,.int .i64 0,.string ⟨#[]⟩,.int .i64 0,.int .i64 0,.int .i64 0,.int .i64 0,.int .i64 (i:Int)],.int .i64 1]) (by simp [results,results71,go_sem,hE.cell]) rfl ⟨by unfold eT; rw [HRE.out,HE.out]; rfl,(sC (sC (sC (sC (sC (sC (sC (sC hB _) _) _) _) _) _) _) _)⟩
  have n41 : s[i]'hi ≠ 41:=by intro e; rw [e] at e41; exact e41 rfl
  have N41:=keep n41
  have hb41 : (((s[i]'hi).toNat : Int) == 41) = false:=by simpa using e41
  clear n41 e41
  by_cases e44 : ((s[i]'hi).toNat : Int) = 44
  ·have HE:=keep (show s[i]'hi = 44 by rw [← UInt8.toNat_inj]; show _ = 44; omega)
   have hb44 : (((s[i]'hi).toNat : Int) == 44) = true:=by rw [e44]; rfl
   clear e44
   have F5:=sE HR
   go_wp2_with fail
   have hK:=HR.out.get (ah (w.heap.size) 66 [.int .u8 0,.int .i64 0,.string ⟨#[]⟩,.int .i64 0,.int .i64 0,.int .i64 0,.int .i64 0,.int .i64 0]) (by simp)
   have hB:=HR.out.bel
   have hE:=(((((((((show Blk wp (w.heap.size) 66 _ from hK).set_ 0 (.int .u8 11)).set_ 1 (.int .i64 0)).set_ 2 (.string ⟨#[]⟩)).set_ 3 (.int .i64 0)).set_ 4 (.int .i64 0)).set_ 5 (.int .i64 0)).set_ 6 (.int .i64 0)).set_ 7 (.int .i64 (i:Int)))
   refine bodyPost_ret (v:=.tuple #[.agg #[.int .u8 11,.int .i64 0,.string ⟨#[]⟩,.int .i64 0,.int .i64 0,.int .i64 0,.int .i64 0,.int .i64 (i:Int)],.int .i64 1]) (by simp [results,results71,go_sem,hE.cell]) rfl ⟨by unfold eT; rw [HRE.out,HE.out]; rfl,(sC (sC (sC (sC (sC (sC (sC (sC hB _) _) _) _) _) _) _) _)⟩
  have n44 : s[i]'hi ≠ 44:=by intro e; rw [e] at e44; exact e44 rfl
  have N44:=keep n44
  have hb44 : (((s[i]'hi).toNat : Int) == 44) = false:=by simpa using e44
  clear n44 e44
  have F5:=sE HR
  go_wp2_with fail
  have hK:=HR.out.get (ah (w.heap.size) 66 [.int .u8 0,.int .i64 0,.string ⟨#[]⟩,.int .i64 0,.int .i64 0,.int .i64 0,.int .i64 0,.int .i64 0]) (by simp)
  have hB:=HR.out.bel
  have hE:=(((((((((show Blk wp (w.heap.size) 66 _ from hK).set_ 0 (.int .u8 0)).set_ 1 (.int .i64 0)).set_ 2 (.string ⟨#[]⟩)).set_ 3 (.int .i64 0)).set_ 4 (.int .i64 0)).set_ 5 (.int .i64 0)).set_ 6 (.int .i64 0)).set_ 7 (.int .i64 0))
  refine bodyPost_ret (v:=.tuple #[.agg #[.int .u8 0,.int .i64 0,.string ⟨#[]⟩,.int .i64 0,.int .i64 0,.int .i64 0,.int .i64 0,.int .i64 0],.int .i64 0]) (by simp [results,results71,go_sem,hE.cell]) rfl ⟨by unfold eT; rw [HRE.out,if_neg N40.out,if_neg N41.out,if_neg N44.out]; rfl,(sC (sC (sC (sC (sC (sC (sC (sC hB _) _) _) _) _) _) _) _)⟩
open Go.RowKit
theorem ow {α:Type} {t:List α} {i:Nat} {n:α} {l:List α} (h:t.drop i=n::l):t[i]?=some n∧t.drop (i+1)=l:=by
 constructor
 ·have:=congrArg (·[0]?) h
  simpa using this
 have:=congrArg (List.drop 1) h
 rw [List.drop_drop] at this
 exact this
def sY:List Nd→List En→List En
 | [],es=>es
 | n::l,es=>sY l (es.take (es.length - am n)++[BE n (es.drop (es.length - am n))])
theorem sA (t:List Nd) (ht:∀ n∈t,NdC n):∀ (l:List Nd) (i:Nat) (J:List Jt) (st2:List Pt),(∀ x∈J,JOk t x)→t.drop i=l→cQ t i l (J.map (·.1))=.ok st2 →
  ∃ J2:List Jt,st2=J2.map (·.1)∧(∀ x∈J2,JOk t x)∧J2.flatMap (·.2.2)=J.flatMap (·.2.2)++l∧J2.map (·.2.1)=sY l (J.map (·.2.1))
 | [],_,J,st2,hJ,_,h=>⟨J,by rw [cQ] at h; injection h with h; exact h.symm,hJ,by rw [List.append_nil],rfl⟩
 | n::l,i,J,st2,hJ,hd,h=>by
  obtain ⟨hi,hd2⟩:=ow hd
  have hnc:=ht n (List.mem_of_getElem? hi)
  rw [cQ] at h
  cases hs:stepW t (J.map (·.1)) i n with
  | error c=>rw [hs] at h; cases h
  | ok st =>
   rw [hs] at h
   unfold stepW at hs
   split at hs
   ·cases hs
   next hlen =>
   split at hs
   ·cases hs
   next hfit =>
   split at hs
   ·cases hs
   injection hs with hs
   rw [List.length_map] at hlen hfit hs
   rw [← List.map_drop] at hfit hs
   rw [← List.map_take] at hs
   obtain ⟨js,hjs⟩:=ex (J.drop (J.length - am n))
   rw [hjs] at hfit hs
   have hjl:js.length=am n:=by rw [← hjs,List.length_drop]; omega
   have hjo:∀ x∈js,JOk t x:=fun x hx=>hJ x (List.mem_of_mem_drop (hjs▸hx))
   obtain ⟨e,he,h3,h4⟩:=A9 hnc t js hjl hjo (by simpa using hfit)
   have hok:JOk t (⟨i,aX (js.map (·.1)),decide (n.kind=3)⟩,e,js.flatMap (·.2.2)++[n]):=by
    refine ⟨?_,?_⟩
    ·by_cases g:n.kind=3
     ·exact .inl ⟨decide_eq_true g,h3 g⟩
     exact .inr ⟨decide_eq_false g,h4 g⟩
    show (js.flatMap (·.2.2)++[n]).getLast?.map (·.kind)=some (bR t i)
    rw [List.getLast?_append]
    unfold bR
    rw [hi]
    rfl
   obtain ⟨J2,e1,e2,e3,e4⟩:=sA t ht l (i+1) (J.take (J.length - am n)++[(⟨i,aX (js.map (·.1)),decide (n.kind=3)⟩,e,js.flatMap (·.2.2)++[n])]) st2
    (fun x hx=>by
     rcases List.mem_append.1 hx with hx | hx
     ·exact hJ x (List.mem_of_mem_take hx)
     rw [List.mem_singleton] at hx; subst hx; exact hok) hd2 (by rw [List.map_append]; show cQ t (i+1) l (_++[_])=_; rw [hs]; exact h)
   refine ⟨J2,e1,e2,?_,?_⟩
   case refine_2 =>
    rw [e4,sY]
    simp only [List.map_append,List.map_take,List.length_map,List.map_cons,List.map_nil]
    rw [he,← hjs,List.map_drop]
   rw [e3,List.flatMap_append]
   have hsp:J.flatMap (·.2.2)=(J.take (J.length - am n)).flatMap (·.2.2)++js.flatMap (·.2.2):=by
    rw [← hjs,← List.flatMap_append,List.take_append_drop]
   rw [hsp]
   simp [List.append_assoc]
theorem pV (t:List Nd):∀ (l:List Nd) (i:Nat) (st:List Pt) (c:Int),cQ t i l st=.error c→¬ c=0
 | [],_,_,_,h=>by rw [cQ] at h; cases h
 | n::l,i,st,c,h=>by
  rw [cQ] at h
  cases hs:stepW t st i n with
  | ok st2=>rw [hs] at h; exact pV t l (i+1) st2 c h
  | error d =>
   rw [hs] at h
   injection h with h
   subst h
   unfold stepW at hs
   split at hs
   ·injection hs with hs; omega
   split at hs
   ·injection hs with hs; omega
   split at hs
   ·injection hs with hs; omega
   cases hs
theorem zr (t:List Nd) (ht:∀ n∈t,NdC n) (h:de t=0):∃ e:En,sY t []=[e]∧Cn (.tr e.s) e.ts t 0∧∀ q∈e.ts,OkC q:=by
 unfold de at h
 split at h
 ·exact absurd h (by decide)
 split at h
 ·exact absurd h (by decide)
 split at h
 next hw=>exact absurd h hw
 next hw =>
 split at h
 ·exact absurd h (by decide)
 next hl =>
 have hw0:lk t=0:=by simpa using hw
 unfold lk at hw0
 cases hst:cQ t 0 t [] with
 | error c =>
  rw [hst] at hw0
  exact absurd hw0 (pV t t 0 [] c hst)
 | ok st =>
  rw [hst] at hw0
  simp only at hw0
  have h1:st.length=1:=by
   by_cases g:st.length=1
   ·exact g
   rw [if_neg g] at hw0; exact absurd hw0 (by decide)
  obtain ⟨J2,e1,e2,e3,e4⟩:=sA t ht t 0 [] st (by simp) rfl hst
  rw [e1,List.length_map] at h1
  match J2,h1 with
  | [x],_ =>
   simp only [List.flatMap_cons,List.flatMap_nil,List.append_nil,List.nil_append] at e3
   have hx:=e2 x (by simp)
   rcases hx.1 with ⟨-,r,-,er,-⟩ | ⟨-,hc,ok⟩
   ·rw [← e3,er] at hl
    exact absurd rfl hl
   rw [e3] at hc
   exact ⟨_,e4.symm,hc,ok⟩
open Go.Lib (decDigits)
abbrev Tx:=List UInt8×Nat
def opT (l:Nat) (x:Tx):List UInt8:=if l≤x.2 then x.1 else 40::(x.1++[41])
def jnT:List Tx→List UInt8
 | []=>[]
 | [x]=>x.1
 | x::y::r=>x.1++44::jnT (y::r)
def gy (n:Nd):List UInt8 :=
 if n.kind=1 then tkT (tkV n) else if n.kind=2 then jL n.r else if n.kind=3 then jL n.r else if n.kind=6 then dS n.op else aE n.fn
def i6 (n:Nd) (xs:List Tx):Tx :=
 if n.kind=1 then (gy n,8)
 else if n.kind=2 then (gy n,8)
 else if n.kind=3 then (gy n,8)
 else if n.kind=4 then (45::opT 5 (xs.getD 0 ([],8)),5)
 else if n.kind=5 then (opT 7 (xs.getD 0 ([],8))++[37],7)
 else if n.kind=6 then (if n.op=5 then (opT 7 (xs.getD 0 ([],8))++(gy n++opT 5 (xs.getD 1 ([],8))),6)
  else (opT (aJ n.op) (xs.getD 0 ([],8))++(gy n++opT (aJ n.op+1) (xs.getD 1 ([],8))),aJ n.op))
 else (gy n++40::(jnT xs++[41]),8)
def txW:List Nd→List Tx→List Tx
 | [],xs=>xs
 | n::l,xs=>txW l (xs.take (xs.length - am n)++[i6 n (xs.drop (xs.length - am n))])
def co (t:List Nd):List UInt8:=((txW t []).headD ([],8)).1
