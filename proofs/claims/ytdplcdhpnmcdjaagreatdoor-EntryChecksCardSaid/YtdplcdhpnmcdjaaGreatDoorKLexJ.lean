/- Plain: the texts of numbers are read as the tokens. No program stands here. Plain: the text of canonical tokens is read as these tokens. No program stands here. How long numbers and operators are as text. Plain: a checked tree has canonical tokens. No program stands here. Plain: every checked tree has canonical tokens, which are lexed and parsed back. No program stands here. The contract of the lexer's text. Plain: the canonical text of a checked tree has its canonical tokens, and these are parsed as the tree. No program stands here. Plain: the canonical text as a function of the nodes. No program stands here. Plain: different trees have different canonical texts; what parsing the canonical text comes to. No program stands here. Plain: the outline of a tree. No program stands here. -/
import Derived.Test.YtdplcdhpnmcdjaaGreatDoorKLexG
import Derived.Test.YtdplcdhpnmcdjaaGreatDoorKLexP
import Derived.Test.YtdplcdhpnmcdjaaGreatDoorKTg
import Derived.Test.YtdplcdhpnmcdjaaGreatDoorKLexI
import Derived.Deep.DeepCutAuto
namespace Go.Proofs.YtdplcdhpnmcdjaaGreatDoor
open Go.RowKit
open Go.Lib (decDigits)
def jT (r:R4):List UInt8:=(bG r.c1 r.r1).1++(if r.c1=r.c2∧r.r1=r.r2 then [] else 58::(bG r.c2 r.r2).1)
def tkT (t:Tk):List UInt8 :=
 if t.kind=1 then cD t.num else if t.kind=2 then dr t.text else if t.kind=3 then (if t.num=1 then c6 else cf)
 else if t.kind=4 then (bj[t.num.toNat - 1]?).getD [] else if t.kind=5 then jT t.r else if t.kind=6 then jT t.r else if t.kind=7 then t.text
 else if t.kind=8 then fA t.num else if t.kind=9 then [40] else if t.kind=10 then [41] else [44]
inductive OkC:Tk→Prop
 | num (n:Int) (a:Nat) (h0:0≤n) (h1:n≤9223372036854775807):OkC ⟨1,n,[],R4.zero,a⟩
 | text (s:List UInt8) (a:Nat) (hp:s.all aj=true):OkC ⟨2,0,s,R4.zero,a⟩
 | yes (a:Nat):OkC ⟨3,1,[],R4.zero,a⟩
 | no (a:Nat):OkC ⟨3,0,[],R4.zero,a⟩
 | err (c a:Nat) (h1:1≤c) (h5:c≤5):OkC ⟨4,(c:Int),[],R4.zero,a⟩
 | ref (c r:Int) (a:Nat) (h:ba c r=true):OkC ⟨5,0,[],⟨c,r,c,r⟩,a⟩
 | rng (r:R4) (a:Nat) (h:aG r=true) (hn:¬ (r.c1=r.c2∧r.r1=r.r2)):OkC ⟨6,0,[],r,a⟩
 | name (s:List UInt8) (a:Nat) (h:o5 s=true):OkC ⟨7,0,s,R4.zero,a⟩
 | op (n:Int) (a:Nat) (h1:1≤n) (h13:n≤13):OkC ⟨8,n,[],R4.zero,a⟩
 | lp (a:Nat):OkC ⟨9,0,[],R4.zero,a⟩
 | rp (a:Nat):OkC ⟨10,0,[],R4.zero,a⟩
 | comma (a:Nat):OkC ⟨11,0,[],R4.zero,a⟩
def After (t:Tk) (y:List UInt8):Prop:=(t.kind≤6→Sep y)∧(t.kind=7→∃ r,y=40::r)∧(t.kind=8→t.num=9∨t.num=11→Opn y)
def Tk.at (t:Tk) (k:Nat):Tk:={ t with at_:=k }
def txT (ts:List Tk):List UInt8:=ts.flatMap tkT
def lW:List Tk→List UInt8→Prop
 | [],_=>True
 | t::ts,y=>OkC t∧After t (txT ts++y)∧lW ts y
theorem pt (a b:List Tk):txT (a++b)=txT a++txT b:=by unfold txT; rw [List.flatMap_append]
theorem lW.app {a b:List Tk} {y:List UInt8} (h:lW a (txT b++y)) (g:lW b y):lW (a++b) y:=by
 induction a with
 | nil=>exact g
 | cons t a ih =>
  obtain ⟨h1,h2,h3⟩:=h
  exact ⟨h1,by show After t (txT (a++b)++y); rw [pt,List.append_assoc]; exact h2,ih h3⟩
def Fst (ts:List Tk):Prop:=∀ y b r,txT ts++y=b::r→b≠61∧b≠62
theorem Fst.app {a:List Tk} (h:Fst a) (_hn:a≠[]) (b:List Tk):Fst (a++b):=by
 intro y c r e
 rw [pt,List.append_assoc] at e
 exact h _ c r e
theorem qF (l:List UInt8):(cd l).length≤l.length:=by
 unfold cd
 rw [List.length_reverse]
 refine Nat.le_trans (List.dropWhile_suffix _).length_le ?_
 rw [List.length_reverse]
 exact Nat.le_refl _
theorem l6 (n:Int) (h1 : -9223372036854775808≤n) (h2:n≤9223372036854775807):(cD n).length≤60:=by
 unfold cD
 have e1:=dD (n.natAbs / 10000) (by omega)
 have e2:=dD (10000+n.natAbs % 10000) (by omega)
 have e3:=qF ((decDigits (10000+n.natAbs % 10000)).drop 1)
 rw [List.length_drop] at e3
 rw [List.length_append,List.length_append]
 have e4:(if n<0 then [45] else []:List UInt8).length≤1:=by split <;> simp
 have e5:(if n.natAbs % 10000=0 then [] else 46::cd ((decDigits (10000+n.natAbs % 10000)).drop 1):List UInt8).length≤21:=by
  split
  ·simp
  rw [List.length_cons]; omega
 omega
theorem tW {p:Prop} [Decidable p] {a b:List UInt8} (ha:a.length≤2) (hb:b.length≤2):(if p then a else b).length≤2:=by
 split
 ·exact ha
 exact hb
theorem nU (n:Int):(fA n).length≤2:=by
 unfold fA
 iterate 13 (refine tW (by decide) ?_)
 decide
structure En where
 ts:List Tk
 s:Nat
def az (fn:Nat):List UInt8:=(dx[fn - 1]?).getD []
def tkV (n:Nd):Tk:=⟨if n.vk=3 then 2 else if n.vk=2 then 3 else n.vk,n.vn,n.vt,R4.zero,0⟩
set_option maxRecDepth 100000
set_option maxHeartbeats 4000000
open Go.RowKit Go.Proofs.Tryz
def gb (l:List UInt8) (i:Nat):Option (Tk×Nat):=if l.head?=some 34 then (aP (l.drop 1)).map fun x=>(⟨2,0,x.1,R4.zero,i⟩,x.2+1) else none
theorem kS:∀ (m:Nat) (l t:List UInt8) (n:Nat),l.length≤m→aP l=some (t,n)→t.length+1≤n:=by
 intro m
 induction m with
 | zero =>
  intro l t n hl hu
  obtain rfl:=List.length_eq_zero_iff.1 (Nat.le_zero.1 hl)
  simp [aP] at hu
 | succ m ih =>
  intro l t n hl hu
  match l,hl,hu with
  | [b],_,hu =>
   rw [di] at hu
   split at hu
   ·simp at hu
    obtain ⟨rfl,rfl⟩:=hu
    simp
   simp at hu
  | b::c::r,hl,hu =>
   rw [bR] at hu
   split at hu
   ·split at hu
    ·cases h9:aP r with
     | none=>rw [h9] at hu; simp at hu
     | some y =>
      rw [h9] at hu
      simp only [Option.map_some,Option.some.injEq,Prod.mk.injEq] at hu
      obtain ⟨rfl,rfl⟩:=hu
      have:=ih r y.1 y.2 (by simp at hl; omega) h9
      simp; omega
    simp at hu
    obtain ⟨rfl,rfl⟩:=hu
    simp
   cases h9:aP (c::r) with
   | none=>rw [h9] at hu; simp at hu
   | some y =>
    rw [h9] at hu
    simp only [Option.map_some,Option.some.injEq,Prod.mk.injEq] at hu
    obtain ⟨rfl,rfl⟩:=hu
    have:=ih (c::r) y.1 y.2 (by simp at hl ⊢; omega) h9
    simp; omega
def d6 (s:ByteArray) (a k:Nat):Prop:=(aP (s.data.toList.drop a)).map (·.2)=(aP (s.data.toList.drop k)).map fun p=>p.2+(k - a)
theorem d6.step {s : ByteArray} {a k : Nat} (h : d6 s a k) (ha : a ≤ k) (hk : k < s.size) (h1 : s[k]'hk ≠ 34) : d6 s a (k + 1):=by
 have hsl:s.data.toList.length=s.size:=by rw [Array.length_toList]; rfl
 have hd : s.data.toList.drop k = s[k]'hk :: s.data.toList.drop (k + 1):=List.drop_eq_getElem_cons (by omega)
 unfold d6 at h ⊢
 rw [h,hd]
 cases hr:s.data.toList.drop (k+1) with
 | nil=>rw [di,if_neg h1]; rfl
 | cons c r =>
  rw [bR,if_neg h1]
  cases aP (c::r) with
  | none=>rfl
  | some y=>simp; omega
theorem d6.pair {s : ByteArray} {a k : Nat} (h : d6 s a k) (ha : a ≤ k) (hk : k + 1 < s.size) (h1 : s[k]'(by omega) = 34) (h2 : s[k + 1]'hk = 34) : d6 s a (k + 2):=by
 have hsl:s.data.toList.length=s.size:=by rw [Array.length_toList]; rfl
 have hd : s.data.toList.drop k = s[k]'(by omega) :: s[k + 1]'hk :: s.data.toList.drop (k + 2):=by
  rw [List.drop_eq_getElem_cons (by omega),List.drop_eq_getElem_cons (by omega)]
  rfl
 unfold d6 at h ⊢
 rw [h,hd,bR,if_pos h1,if_pos h2]
 cases aP (s.data.toList.drop (k+2)) with
 | none=>rfl
 | some y=>simp; omega
theorem d6.last {s : ByteArray} {a k : Nat} (h : d6 s a k) (ha : a ≤ k) (hk : k < s.size) (h1 : s[k]'hk = 34) (h2 : ∀ h : k + 1 < s.size,s[k + 1]'h ≠ 34) : ∃ t,aP (s.data.toList.drop a) = some (t,k + 1 - a):=by
 have hsl:s.data.toList.length=s.size:=by rw [Array.length_toList]; rfl
 have hu:aP (s.data.toList.drop k)=some ([],1):=by
  have hd : s.data.toList.drop k = s[k]'hk :: s.data.toList.drop (k + 1):=List.drop_eq_getElem_cons (by omega)
  rw [hd]
  by_cases hk1:k+1<s.size
  ·have hd2 : s.data.toList.drop (k + 1) = s[k + 1]'hk1 :: s.data.toList.drop (k + 2):=List.drop_eq_getElem_cons (by omega)
   rw [hd2,bR,if_pos h1,if_neg (h2 hk1)]
  rw [List.drop_eq_nil_of_le (by omega),di,if_pos h1]
 unfold d6 at h
 rw [hu] at h
 cases hv:aP (s.data.toList.drop a) with
 | none=>rw [hv] at h; simp at h
 | some y =>
  rw [hv] at h
  simp at h
  exact ⟨y.1,by rw [show k+1 - a=y.2 by omega]⟩
theorem d6.out {s:ByteArray} {a:Nat} (h:d6 s a s.size):aP (s.data.toList.drop a)=none:=by
 have hsl:s.data.toList.length=s.size:=by rw [Array.length_toList]; rfl
 unfold d6 at h
 have hd:s.data.toList.drop s.size=[]:=List.drop_eq_nil_of_le (by omega)
 rw [hd] at h
 cases hv:aP (s.data.toList.drop a) with
 | none=>rfl
 | some y=>rw [hv] at h; simp [aP] at h
theorem eR {s : ByteArray} {i : Nat} (hi : i < s.size) : aK s i = s[i]'hi :: s.data.toList.drop (i + 1):=List.drop_eq_getElem_cons (by rw [Array.length_toList]; exact hi)
theorem xo {s : ByteArray} {i : Nat} (hi : i < s.size) (h : s[i]'hi ≠ 34) : gb (aK s i) i = none:=by
 unfold gb
 rw [eR hi,if_neg (by simpa using h)]
theorem si {s : ByteArray} {i : Nat} (hi : i < s.size) (h : s[i]'hi = 34) (h2 : aP (s.data.toList.drop (i + 1)) = none) : gb (aK s i) i = none:=by
 unfold gb
 rw [eR hi,if_pos (by simpa using h)]
 simp [h2]
theorem px {s : ByteArray} {i n : Nat} {t : List UInt8} (hi : i < s.size) (h : s[i]'hi = 34) (h2 : aP (s.data.toList.drop (i + 1)) = some (t,n)) : gb (aK s i) i = some (⟨2,0,t,R4.zero,i⟩,n + 1):=by
 unfold gb
 rw [eR hi,if_pos (by simpa using h)]
 simp [h2]
theorem pu {s : ByteArray} {i k : Nat} {t : List UInt8} (hi : i < s.size) (hk : i + 1 ≤ k) (hks : k < s.size) (h : s[i]'hi = 34) (h2 : aP (s.data.toList.drop (i + 1)) = some (t,k + 1 - (i + 1))) :
  ∃ x,(s.extract i (k+1)).data.toList=34::x∧aP x=some (t,x.length):=by
 have hsl:s.data.toList.length=s.size:=by rw [Array.length_toList]; rfl
 refine ⟨(s.data.toList.drop (i+1)).take (k - i),?_,?_⟩
 ·rw [Lib.extract_data]
  show (aK s i).take (k+1 - i)=_
  rw [eR hi,h,show k+1 - i=(k - i)+1 by omega,List.take_succ_cons]
 have hl:((s.data.toList.drop (i+1)).take (k - i)).length=k - i:=by rw [List.length_take,List.length_drop]; omega
 rw [hl]
 have h3:aP ((s.data.toList.drop (i+1)).take (k - i)++(s.data.toList.drop (i+1)).drop (k - i))=some (t,((s.data.toList.drop (i+1)).take (k - i)).length):=by
  rw [List.take_append_drop,hl,h2]
  congr 2
  omega
 have h4:=kR _ _ _ [] t (Nat.le_refl _) h3 (by simp)
 rw [List.append_nil,hl] at h4
 exact h4
theorem mK (s:ByteArray) (rb i:Nat) (w:World) (hs:s.size≤256) (hi:i<s.size) (hp:s.data.toList.all aj=true) (hr:w.cell? ⟨rb,0,none⟩=some (.string s)) :
  Calls prog 104 #[.pointer (some ⟨rb,0,none⟩),.int .i64 (i:Int)] w fun e w'=>e=.returned (fF (gb (aK s i) i))∧Below w.heap.size w w':=by
 have hh:=ey hr
 have H0:=Lib.hid hh
 clear hh
 have HP:=keep hp
 clear hp
 by_cases h1 : ((s[i]'hi).toNat : Int) = 34
 ·have h34 : s[i]'hi = 34:=by rw [← UInt8.toNat_inj]; show _ = 34; omega
  have H34:=keep h34
  have hb34 : (((s[i]'hi).toNat : Int) != 34) = false:=by rw [h1]; rfl
  clear h34 h1
  have F1:=H0.out.sees
  simp only [sees,ae,ag,Nat.add_zero] at F1
  obtain ⟨⟨z0,c00,-⟩,-⟩:=F1
  go_enter func104,ntmps104
  go_wp2_with fail
  have y2:=z0
  clear z0 c00
  have H3:=Lib.hid (H0.out.var w.heap.size 97 [.int .u8 0,.int .i64 0,.string ⟨#[]⟩,.int .i64 0,.int .i64 0,.int .i64 0,.int .i64 0,.int .i64 0] rfl)
  clear H0
  generalize (w.alloc (.cells #[.int .u8 0,.int .i64 0,.string ⟨#[]⟩,.int .i64 0,.int .i64 0,.int .i64 0,.int .i64 0,.int .i64 0] 97))=W4 at H3 ⊢
  clear hb34
  go_loopw [6] (fun iv wr=>∃ k:Nat,i+1≤k∧k≤s.size∧iv=.int .i64 (k:Int)∧ao (d6 s (i+1) k)∧Hid (Ok w [af (w.heap.size) 97 [.int .u8 0,.int .i64 0,.string ⟨#[]⟩,.int .i64 0,.int .i64 0,.int .i64 0,.int .i64 0,.int .i64 0],ae rb 0 [.string s]] wr)) (fun iv _=>s.size - (intOf iv).toNat)
  case atStart=>exact ⟨i+1,Nat.le_refl _,hi,by go_num,keep (by unfold d6; simp),H3⟩
  case round =>
   clear H3
   obtain ⟨k,hk1,hk,rfl,HK,HR⟩:=hrel
   obtain ⟨wp,rfl⟩:∃ wp:World,wp=wr:=⟨_,rfl⟩
   by_cases hlt:(k:Int)<s.size
   ·have hks:k<s.size:=by omega
    by_cases h3 : ((s[k]'hks).toNat : Int) = 34
    ·have h3' : s[k]'hks = 34:=by rw [← UInt8.toNat_inj]; show _ = 34; omega
     have H3:=keep h3'
     have hb3 : (((s[k]'hks).toNat : Int) != 34) = false:=by rw [h3]; rfl
     clear h3 h3'
     have ht1:((k:Int)+1).toNat=k+1:=by omega
     by_cases h4:(k:Int)+1<s.size
     ·have hks1:k+1<s.size:=by omega
      by_cases h5 : ((s[k + 1]'hks1).toNat : Int) = 34
      ·have h5' : s[k + 1]'hks1 = 34:=by rw [← UInt8.toNat_inj]; show _ = 34; omega
       have H5:=keep h5'
       have hb5 : (((s[k + 1]'hks1).toNat : Int) == 34) = true:=by rw [h5]; rfl
       clear h5 h5'
       have F5:=sE HR
       go_wp2_with fail
       go_roundw
       case rel=>exact ⟨k+2,by omega,by omega,by go_num,keep (d6.pair HK.out hk1 hks1 H3.out H5.out),HR⟩
       case measure=>simp [intOf]; omega
      have h5' : s[k + 1]'hks1 ≠ 34:=by intro e; rw [e] at h5; exact h5 rfl
      have H5:=keep h5'
      have hb5 : (((s[k + 1]'hks1).toNat : Int) == 34) = false:=by simpa using h5
      clear h5 h5'
      obtain ⟨t,hu⟩:=d6.last HK.out hk1 hks H3.out (fun _=>H5.out)
      obtain ⟨x,hx1,hx2⟩:=pu hi hk1 hks H34.out hu
      have hsh:=kS _ _ _ _ (Nat.le_refl _) hu
      have HRES:=keep (px hi H34.out hu)
      have hpe:(s.extract i (k+1)).data.toList.all aj=true:=by
       rw [List.all_eq_true]
       intro b hb
       rw [Lib.extract_data] at hb
       exact List.all_eq_true.1 HP.out b (List.mem_of_mem_drop (List.mem_of_mem_take hb))
      have HX1:=keep hx1
      have HX2:=keep hx2
      have HPE:=keep hpe
      have hik:(i:Int)≤(k:Int)+1:=by omega
      have hk1s:(k:Int)+1≤s.size:=by omega
      have htl:t.length≤256:=by omega
      have hres2:(k:Int)+1 - (i:Int)=((k+1 - (i+1)+1:Nat):Int):=by omega
      have HR2:=keep hres2
      clear hu hx1 hx2 hpe hsh hres2
      have F5:=sE HR
      go_wp2_with fail
      refine cM (gh (s.extract i (k+1)) x t _ (by simp; omega) HX1.out HX2.out HPE.out htl) HR fun w6 H8=>?_
      clear F5 HR
      have F9:=sE H8
      go_wp2_with fail
      exact e8_ [.int .i64 ((k:Int)+1 - (i:Int))] H8 (fun W h=>by simp [results,results104,go_sem,h]) (fun h=>⟨by rw [HRES.out,HR2.out]; rfl,h⟩)
     obtain ⟨t,hu⟩:=d6.last HK.out hk1 hks H3.out (fun h=>absurd h (by omega))
     obtain ⟨x,hx1,hx2⟩:=pu hi hk1 hks H34.out hu
     have hsh:=kS _ _ _ _ (Nat.le_refl _) hu
     have HRES:=keep (px hi H34.out hu)
     have hpe:(s.extract i (k+1)).data.toList.all aj=true:=by
      rw [List.all_eq_true]
      intro b hb
      rw [Lib.extract_data] at hb
      exact List.all_eq_true.1 HP.out b (List.mem_of_mem_drop (List.mem_of_mem_take hb))
     have HX1:=keep hx1
     have HX2:=keep hx2
     have HPE:=keep hpe
     have hik:(i:Int)≤(k:Int)+1:=by omega
     have hk1s:(k:Int)+1≤s.size:=by omega
     have htl:t.length≤256:=by omega
     have hres2:(k:Int)+1 - (i:Int)=((k+1 - (i+1)+1:Nat):Int):=by omega
     have HR2:=keep hres2
     clear hu hx1 hx2 hpe hsh hres2
     have F5:=sE HR
     go_wp2_with fail
     refine cM (gh (s.extract i (k+1)) x t _ (by simp; omega) HX1.out HX2.out HPE.out htl) HR fun w6 H8=>?_
     clear F5 HR
     have F9:=sE H8
     go_wp2_with fail
     exact e8_ [.int .i64 ((k:Int)+1 - (i:Int))] H8 (fun W h=>by simp [results,results104,go_sem,h]) (fun h=>⟨by rw [HRES.out,HR2.out]; rfl,h⟩)
    have h3' : s[k]'hks ≠ 34:=by intro e; rw [e] at h3; exact h3 rfl
    have H3:=keep h3'
    have hb3 : (((s[k]'hks).toNat : Int) != 34) = true:=by simpa using h3
    clear h3 h3'
    have F5:=sE HR
    go_wp2_with fail
    go_roundw
    case rel=>exact ⟨k+1,by omega,by omega,by go_num,keep (d6.step HK.out hk1 hks H3.out),HR⟩
    case measure=>simp [intOf]; omega
   have hke:k=s.size:=by omega
   subst hke
   have HN:=keep (d6.out HK.out)
   have F5:=sE HR
   go_wp2_with fail
   exact e8_ [.int .i64 0] HR (fun W h=>by simp [results,results104,go_sem,h]) (fun h=>⟨by rw [si hi H34.out HN.out]; rfl,h⟩)
 have h34 : s[i]'hi ≠ 34:=by intro e; rw [e] at h1; exact h1 rfl
 have H34:=keep h34
 have hb34 : (((s[i]'hi).toNat : Int) != 34) = true:=by simpa using h1
 clear h34 h1
 have F1:=H0.out.sees
 simp only [sees,ae,ag,Nat.add_zero] at F1
 obtain ⟨⟨z0,c00,-⟩,-⟩:=F1
 go_enter func104,ntmps104
 go_upto_region 1 with fail
 have y2:=z0
 clear z0 c00
 have H3:=Lib.hid (H0.out.var w.heap.size 97 [.int .u8 0,.int .i64 0,.string ⟨#[]⟩,.int .i64 0,.int .i64 0,.int .i64 0,.int .i64 0,.int .i64 0] rfl)
 clear H0
 generalize (w.alloc (.cells #[.int .u8 0,.int .i64 0,.string ⟨#[]⟩,.int .i64 0,.int .i64 0,.int .i64 0,.int .i64 0,.int .i64 0] 97))=W4 at H3 ⊢
 have F5:=H3.out.sees
 simp only [sees,af,ae,ag,Nat.add_zero,aa,Nat.reduceAdd] at F5
 obtain ⟨⟨⟨z0,fz0⟩,c00,c01,c02,c03,c04,c05,c06,c07,-⟩,⟨z1,c10,-⟩,-⟩:=F5
 go_wp2_with fail
 exact e8_ [.int .i64 0] H3 (fun W h=>by simp [results,results104,go_sem,h]) (fun h=>⟨by rw [xo hi H34.out]; rfl,h⟩)
abbrev Tx:=List UInt8×Nat
def opT (l:Nat) (x:Tx):List UInt8:=if l≤x.2 then x.1 else 40::(x.1++[41])
def jnT:List Tx→List UInt8
 | []=>[]
 | [x]=>x.1
 | x::y::r=>x.1++44::jnT (y::r)
def fb (n:Nd):List UInt8 :=
 if n.kind=1 then tkT (tkV n) else if n.kind=2 then jT n.r else if n.kind=3 then jT n.r else if n.kind=6 then fA n.op else az n.fn
def gn (n:Nd) (xs:List Tx):Tx :=
 if n.kind=1 then (fb n,8)
 else if n.kind=2 then (fb n,8)
 else if n.kind=3 then (fb n,8)
 else if n.kind=4 then (45::opT 5 (xs.getD 0 ([],8)),5)
 else if n.kind=5 then (opT 7 (xs.getD 0 ([],8))++[37],7)
 else if n.kind=6 then (if n.op=5 then (opT 7 (xs.getD 0 ([],8))++(fb n++opT 5 (xs.getD 1 ([],8))),6)
  else (opT (aT n.op) (xs.getD 0 ([],8))++(fb n++opT (aT n.op+1) (xs.getD 1 ([],8))),aT n.op))
 else (fb n++40::(jnT xs++[41]),8)
def txW:List Nd→List Tx→List Tx
 | [],xs=>xs
 | n::l,xs=>txW l (xs.take (xs.length - aw n)++[gn n (xs.drop (xs.length - aw n))])
abbrev Ol:=List (Nat×List UInt8)
def cU (n:Nd):List UInt8:=if n.kind=4 then [110,101,103] else if n.kind=5 then [112,101,114,99,101,110,116] else fb n
def rm (l:Ol):Ol:=l.map fun x=>(x.1+1,x.2)
def Steps:Nat→Ol→Prop
 | _,[]=>True
 | p,x::r=>1≤x.1∧x.1≤p+1∧Steps x.1 r
def WfO (l:Ol):Prop:=∃ a r,l=(0,a)::r∧Steps 0 r
theorem Steps.any {l:Ol} (h:Steps 0 l) (q:Nat):Steps q l:=by
 cases l with
 | nil=>trivial
 | cons x r=>exact ⟨h.1,by have:=h.2.1; omega,h.2.2⟩
theorem Steps.app {p:Nat} {a b:Ol} (h:Steps p a) (g:Steps 0 b):Steps p (a++b):=by
 induction a generalizing p with
 | nil=>exact g.any p
 | cons x a ih=>exact ⟨h.1,h.2.1,ih h.2.2⟩
theorem Steps.down {p:Nat} {a:Ol} (h:Steps p a):Steps (p+1) (rm a):=by
 induction a generalizing p with
 | nil=>trivial
 | cons x a ih=>exact ⟨by show 1≤x.1+1; omega,by have:=h.2.1; show x.1+1≤p+1+1; omega,ih h.2.2⟩
theorem WfO.down {l:Ol} (h:WfO l):Steps 0 (rm l):=by
 obtain ⟨a,r,rfl,hr⟩:=h
 exact ⟨Nat.le_refl _,Nat.le_refl _,hr.down⟩
