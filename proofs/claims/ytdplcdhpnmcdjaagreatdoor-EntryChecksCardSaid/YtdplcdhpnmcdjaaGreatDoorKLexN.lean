/- The contract of lex.Tokens: the walk. -/
import Derived.Test.YtdplcdhpnmcdjaaGreatDoorKLexM
import Derived.Test.YtdplcdhpnmcdjaaGreatDoorKTg
import Derived.Laws.EntriesVeiled
namespace Go.Proofs.YtdplcdhpnmcdjaaGreatDoor
set_option maxRecDepth 100000
set_option maxHeartbeats 8000000
open Go.RowKit Go.Proofs.Tryz
def qR (L:List UInt8) (w:World) (e:Ending) (w':World):Prop :=
 ∃ v,e=.returned (.tuple #[v,.int .i64 (aM L).2.1,.int .i64 (aM L).2.2])∧w'.ownsRow w.heap.size 97 8 v (aM L).1.length (eU (aM L).1)∧Below w.heap.size w w'
theorem mW {L:List UInt8} (h:256<L.length):aM L=([],0,5):=by unfold aM; rw [if_pos h]
theorem iX {L:List UInt8} {k:Nat} (h:L.length≤256) (hk:k<L.length) (hp:∀ b∈L.take k,aj b=true) (hb:aj L[k]=false):aM L=([],(k:Int),4):=by
 have hf:L.findIdx? (fun b=>!aj b)=some k:=by
  rw [List.findIdx?_eq_some_iff_getElem]
  refine ⟨hk,by simp [hb],fun j hj => ?_⟩
  have:=hp L[j] (by rw [List.mem_take_iff_getElem]; exact ⟨j,by omega,rfl⟩)
  simp [this]
 unfold aM
 rw [if_neg (by omega),hf]
theorem lO {L:List UInt8} (h:L.length≤256) (hp:∀ b∈L,aj b=true):aM L=match bV L.length 0 L with
  | .ok ts=>(ts,0,0)
  | .error i=>([],(i:Int),4):=by
 have hf:L.findIdx? (fun b=>!aj b)=none:=by
  rw [List.findIdx?_eq_none_iff]
  intro b hb
  simp [hp b hb]
 unfold aM
 rw [if_neg (by omega),hf]
 rfl
theorem eV {L:List UInt8} {w w':World} {a e:Int} (h:aM L=([],a,e)) (hb:Below w.heap.size w w'):qR L w (.returned (.tuple #[.slice none 0 0,.int .i64 a,.int .i64 e])) w':=by
 refine ⟨.slice none 0 0,by rw [h],?_,hb⟩
 rw [h]
 exact World.ownsRow_nil _ _ _ _
def d4:Nat→List UInt8→Nat→Option (Tk×Nat)
 | 0=>ga
 | 1=>gb
 | 2=>bX
 | 3=>jw
 | _=>dP
def co (S:List UInt8) (k j:Nat):Prop:=∀ i,i<j→d4 i (S.drop k) k=none
theorem co.next {S:List UInt8} {k j:Nat} (h:co S k j) (h1:d4 j (S.drop k) k=none):co S k (j+1):=by
 intro i hi
 rcases Nat.lt_succ_iff_lt_or_eq.1 hi with hi | rfl
 ·exact h i hi
 exact h1
theorem rJ {S:List UInt8} {k:Nat} (hk:k<S.length) (h:co S k 5):ee k (S.drop k)=none:=by
 have h0:=h 0 (by decide)
 have h1:=h 1 (by decide)
 have h2:=h 2 (by decide)
 have h3:=h 3 (by decide)
 have h4:=h 4 (by decide)
 simp only [d4] at h0 h1 h2 h3 h4
 rw [List.drop_eq_getElem_cons hk] at h0 h1 h2 h3 h4 ⊢
 rw [dF,h0,h1,h2,h3,h4]
 rfl
theorem fG {S:List UInt8} {k j:Nat} {q:Tk×Nat} (hk:k<S.length) (hj:j<5) (h:co S k j) (hq:d4 j (S.drop k) k=some q):ee k (S.drop k)=some q:=by
 have hx:=List.drop_eq_getElem_cons hk
 rcases (show j=0∨j=1∨j=2∨j=3∨j=4 by omega) with rfl | rfl | rfl | rfl | rfl
 ·simp only [d4] at hq
  rw [hx] at hq ⊢
  rw [dF,hq]
  rfl
 ·have h0:=h 0 (by decide)
  simp only [d4] at hq h0
  rw [hx] at hq h0 ⊢
  rw [dF,h0,hq]
  rfl
 ·have h0:=h 0 (by decide)
  have h1:=h 1 (by decide)
  simp only [d4] at hq h0 h1
  rw [hx] at hq h0 h1 ⊢
  rw [dF,h0,h1,hq]
  rfl
 ·have h0:=h 0 (by decide)
  have h1:=h 1 (by decide)
  have h2:=h 2 (by decide)
  simp only [d4] at hq h0 h1 h2
  rw [hx] at hq h0 h1 h2 ⊢
  rw [dF,h0,h1,h2,hq]
  rfl
 have h0:=h 0 (by decide)
 have h1:=h 1 (by decide)
 have h2:=h 2 (by decide)
 have h3:=h 3 (by decide)
 simp only [d4] at hq h0 h1 h2 h3
 rw [hx] at hq h0 h1 h2 h3 ⊢
 rw [dF,h0,h1,h2,h3,hq]
 rfl
theorem eD:fF none=.tuple #[.agg #[.int .u8 0,.int .i64 0,.string ⟨#[]⟩,.int .i64 0,.int .i64 0,.int .i64 0,.int .i64 0,.int .i64 0],.int .i64 0]:=rfl
theorem dM (a b c d e:Value) (w:World) :
  ((Instr.index 141 (.agg #[a,b,c,d,e]) (.int .i64 0)).run prog w=.ok a w ∧
  (Instr.index 141 (.agg #[a,b,c,d,e]) (.int .i64 1)).run prog w=.ok b w ∧
  (Instr.index 141 (.agg #[a,b,c,d,e]) (.int .i64 2)).run prog w=.ok c w) ∧
  (Instr.index 141 (.agg #[a,b,c,d,e]) (.int .i64 3)).run prog w=.ok d w ∧
  (Instr.index 141 (.agg #[a,b,c,d,e]) (.int .i64 4)).run prog w=.ok e w:=by
 refine ⟨⟨?_,?_,?_⟩,?_,?_⟩ <;> kernel_rfl
theorem nQ (s:ByteArray) (w:World) (hs:s.size≤4611686018427387904) (hw:Words w) :
  Calls prog 61 #[.string s] w (qR s.data.toList w):=by
 have HSL:=keep (show s.data.toList.length=s.size by rw [Array.length_toList]; rfl)
 have HW:=Lib.hid hw
 clear hw
 by_cases hlong:(s.size:Int)>256
 ·have HL:=keep (mW (L:=s.data.toList) (by rw [HSL.out]; omega))
  go_enter func61,ntmps61
  go_wp2_with fail
  go_step3
  go_wp2_with fail
  try rw [Exit.noGoto_ret]
  exact bodyPost_ret (v:=.tuple #[.slice none 0 0,.int .i64 0,.int .i64 5]) (by simp [results,results61,go_sem]) rfl (eV HL.out (Below.refl _ _))
 have h256:s.size≤256:=by omega
 obtain ⟨i0,hi,hz0,hz1,hz2⟩:=info_parts rB
 go_enter func61,ntmps61
 go_wp2_with fail
 go_step3
 go_wp2_with fail
 clear hlong hs
 go_loopw [2,18] (fun ov iv wr=>∃ k:Nat,k≤s.size∧ov=.slice none 0 0∧iv=.int .i64 (k:Int)∧ao (∀ b∈s.data.toList.take k,aj b=true)∧wr=w) (fun _ iv _=>s.size - (intOf iv).toNat)
 case atStart=>exact ⟨0,Nat.zero_le _,rfl,rfl,keep (by simp),rfl⟩
 case round =>
  obtain ⟨k,hk,rfl,rfl,HP,hwr⟩:=hrel
  obtain rfl:w=wr:=hwr.symm
  by_cases hlt:(k:Int)<s.size
  ·have hks:k<s.size:=by omega
   rcases (show (((s[k]'hks).toNat : Int) < 32) ∨ (32 ≤ ((s[k]'hks).toNat : Int) ∧ 126 < ((s[k]'hks).toNat : Int)) ∨ (32 ≤ ((s[k]'hks).toNat : Int) ∧ ((s[k]'hks).toNat : Int) ≤ 126) by omega) with h1 | ⟨h1,h2⟩ | ⟨h1,h2⟩
   ·have HB:=keep (iX (k:=k) (by rw [HSL.out]; exact h256) (by rw [HSL.out]; exact hks) HP.out (show aj (s[k]'hks) = false by unfold aj; simp; omega))
    go_wp2_with fail
    try rw [Exit.noGoto_ret]
    exact bodyPost_ret (v:=.tuple #[.slice none 0 0,.int .i64 (k:Int),.int .i64 4]) (by simp [results,results61,go_sem]) rfl (eV HB.out (Below.refl _ _))
   ·have HB:=keep (iX (k:=k) (by rw [HSL.out]; exact h256) (by rw [HSL.out]; exact hks) HP.out (show aj (s[k]'hks) = false by unfold aj; simp; omega))
    go_wp2_with fail
    try rw [Exit.noGoto_ret]
    exact bodyPost_ret (v:=.tuple #[.slice none 0 0,.int .i64 (k:Int),.int .i64 4]) (by simp [results,results61,go_sem]) rfl (eV HB.out (Below.refl _ _))
   have HB:=keep (show ∀ b∈s.data.toList.take (k+1),aj b=true by
    intro b hb
    rw [List.take_succ_eq_append_getElem (by rw [HSL.out]; exact hks)] at hb
    rcases List.mem_append.1 hb with hb | hb
    ·exact HP.out b hb
    simp at hb
    subst hb
    show aj (s[k]'hks) = true
    unfold aj
    simp; omega)
   go_wp2_with fail
   go_roundw
   case rel=>exact ⟨k+1,by omega,rfl,by go_num,HB,by first | trivial | rfl⟩
   case measure=>simp [intOf]; omega
  obtain rfl:k=s.size:=by omega
  have hpl:∀ b∈s.data.toList,aj b=true:=fun b hb=>HP.out b (by rw [← HSL.out,List.take_length]; exact hb)
  have HPL:=keep hpl
  have HALL:=keep (List.all_eq_true.2 hpl)
  have HTP:=keep (lO (L:=s.data.toList) (by rw [HSL.out]; exact h256) hpl)
  clear HP hpl hk
  have H0:=Lib.hid (Ok.start w)
  go_upto_region 10 with fail
  have H1:=Lib.hid (H0.out.alloc w.heap.size 139 [.string s] rfl)
  clear H0
  generalize (w.alloc (.cells #[.string s] 139))=W2 at H1 ⊢
  have F3:=H1.out.sees
  simp only [sees,ac,aa] at F3
  obtain ⟨⟨z0,c00,-⟩,-⟩:=F3
  have hmf:∀ (fn:Fn) (first cap:Array Value) (w:World),(Instr.makeFunc fn first cap).run prog w=.ok (.func fn first cap) w:=fun _ _ _ _=>rfl
  go_wp2_with fail
  clear hmf
  clear z0 c00
  have H4:=Lib.hid (H1.out.alloc W2.heap.size 141 [.func (.func 103) #[.pointer (some ⟨w.heap.size,0,none⟩)] #[],.func (.func 104) #[.pointer (some ⟨w.heap.size,0,none⟩)] #[],.func (.func 105) #[.pointer (some ⟨w.heap.size,0,none⟩)] #[],.func (.func 106) #[.pointer (some ⟨w.heap.size,0,none⟩)] #[],.func (.func 107) #[.pointer (some ⟨w.heap.size,0,none⟩)] #[]] rfl)
  clear H1
  generalize (W2.alloc (.cells #[.func (.func 103) #[.pointer (some ⟨w.heap.size,0,none⟩)] #[],.func (.func 104) #[.pointer (some ⟨w.heap.size,0,none⟩)] #[],.func (.func 105) #[.pointer (some ⟨w.heap.size,0,none⟩)] #[],.func (.func 106) #[.pointer (some ⟨w.heap.size,0,none⟩)] #[],.func (.func 107) #[.pointer (some ⟨w.heap.size,0,none⟩)] #[]] 141))=W5 at H4 ⊢
  go_step3
  go_wp2_with fail
  go_loopg [2,8] s.size (fun gf lv iv wr=>∃ (k:Nat) (l:List Tk),k≤s.size∧gf=s.size - k∧iv=.int .i64 (k:Int)∧l.length≤k∧ao (Tks s.data.toList k l)∧Hid (an w [ac (W2.heap.size) 141 [.func (.func 103) #[.pointer (some ⟨w.heap.size,0,none⟩)] #[],.func (.func 104) #[.pointer (some ⟨w.heap.size,0,none⟩)] #[],.func (.func 105) #[.pointer (some ⟨w.heap.size,0,none⟩)] #[],.func (.func 106) #[.pointer (some ⟨w.heap.size,0,none⟩)] #[],.func (.func 107) #[.pointer (some ⟨w.heap.size,0,none⟩)] #[]],ac (w.heap.size) 139 [.string s]] 97 8 lv l.length (eU l) wr))
  case atStart=>exact ⟨0,[],Nat.zero_le _,by omega,rfl,Nat.zero_le _,keep (Tks.start _),Lib.hid (an.start H4.out _ _)⟩
  case round =>
   clear H4
   obtain ⟨k,l,hk,hgk,rfl,hlk,HT,HR⟩:=hrel
   obtain ⟨wp,rfl⟩:∃ wp:World,wp=wr:=⟨_,rfl⟩
   subst hgk
   obtain ⟨lv,rfl⟩:∃ lv:Value,lv=u2:=⟨_,rfl⟩
   by_cases hlt:(k:Int)<s.size
   ·have hks:k<s.size:=by omega
    have hkl:k<s.data.toList.length:=by rw [HSL.out]; exact hks
    have HKL:=keep hkl
    clear hkl
    by_cases h32 : ((s[k]'hks).toNat : Int) = 32
    ·have hb32 : (((s[k]'hks).toNat : Int) == 32) = true:=by rw [h32]; rfl
     have HB:=keep (show s.data.toList[k]'HKL.out = 32 by show s[k]'hks = 32; rw [← UInt8.toNat_inj]; show _ = 32; omega)
     clear h32
     go_wp2_with fail
     go_roundg (s.size - (k+1))
     case rel=>exact ⟨k+1,l,by omega,rfl,by go_num,by omega,keep (Tks.blank HT.out HKL.out HB.out),HR⟩
     case measure=>omega
    have hb32 : (((s[k]'hks).toNat : Int) == 32) = false:=by simpa using h32
    have HB:=keep (show s.data.toList[k]'HKL.out ≠ 32 by show s[k]'hks ≠ 32; intro e; rw [e] at h32; exact h32 rfl)
    clear h32
    have F:=HR.out.ok.sees
    simp only [sees,ac,aa,Nat.reduceAdd] at F
    go_split_ands
    go_wp2_with fail
    clear hb32
    obtain ⟨wq,rfl⟩:∃ wq:World,wq=wp:=⟨_,rfl⟩
    go_loopg [2,8,58] 5 (fun gf lv2 iv2 jv wr=>∃ j:Nat,j≤5∧gf=5 - j∧lv2=lv∧iv2=.int .i64 (k:Int)∧jv=.int .i64 (j:Int)∧ao (co s.data.toList k j)∧Hid (an w [ac (W2.heap.size) 141 [.func (.func 103) #[.pointer (some ⟨w.heap.size,0,none⟩)] #[],.func (.func 104) #[.pointer (some ⟨w.heap.size,0,none⟩)] #[],.func (.func 105) #[.pointer (some ⟨w.heap.size,0,none⟩)] #[],.func (.func 106) #[.pointer (some ⟨w.heap.size,0,none⟩)] #[],.func (.func 107) #[.pointer (some ⟨w.heap.size,0,none⟩)] #[]],ac (w.heap.size) 139 [.string s]] 97 8 lv l.length (eU l) wr))
    case atStart=>exact ⟨0,Nat.zero_le _,rfl,rfl,rfl,rfl,keep (fun i hi=>absurd hi (by omega)),HR⟩
    case round =>
     clear HR
     obtain ⟨j,hj,hgj,rfl,rfl,rfl,HN,HR⟩:=hrel
     obtain ⟨wp,rfl⟩:∃ wp:World,wp=wr:=⟨_,rfl⟩
     subst hgj
     by_cases hj5:(j:Int)<5
     ·have F:=HR.out.ok.sees
      simp only [sees,ac,aa,Nat.reduceAdd] at F
      go_split_ands
      have hcr:wp.cell? ⟨w.heap.size,0,none⟩=some (.string s):=by assumption
      have HCR:=keep hcr
      rcases (show j=0∨j=1∨j=2∨j=3∨j=4 by omega) with rfl | rfl | rfl | rfl | rfl
      ·have hix:=(dM (.func (.func 103) #[.pointer (some ⟨w.heap.size,0,none⟩)] #[]) (.func (.func 104) #[.pointer (some ⟨w.heap.size,0,none⟩)] #[]) (.func (.func 105) #[.pointer (some ⟨w.heap.size,0,none⟩)] #[]) (.func (.func 106) #[.pointer (some ⟨w.heap.size,0,none⟩)] #[]) (.func (.func 107) #[.pointer (some ⟨w.heap.size,0,none⟩)] #[]) wp).1.1
       go_wp2_with fail
       clear hix
       refine (ko s w.heap.size k _ (by omega) hks HCR.out).mono ?_
       rintro e w5 ⟨rfl,hb5⟩
       have HR5:=Lib.hid (HR.out.below hb5)
       clear hb5 hcr HCR HR
       obtain ⟨x,hx⟩:=ex (ga (aK s k) k)
       have HX:=keep (show d4 0 (s.data.toList.drop k) k=x from hx)
       rw [hx]
       clear hx
       cases x with
       | none =>
        rw [eD]
        go_wp2_with fail
        go_roundg (5 - (0+1))
        case rel=>exact ⟨1,by omega,rfl,rfl,rfl,by go_num,keep (co.next HN.out HX.out),Lib.hid (HR5.out.alloc_obj _)⟩
        case measure=>omega
       | some q =>
        have htk:=fG HKL.out (by decide) HN.out HX.out
        obtain ⟨t,n⟩:=q
        have hle:=fI htk
        have HTK:=keep (Tks.tok HT.out HKL.out HB.out htk)
        obtain ⟨hn1,hn2⟩:=hle
        rw [List.length_drop,HSL.out] at hn2
        have hn3:(n:Int)>0:=by omega
        have hn4:k+n≤s.size:=by omega
        have HTR:=keep (cY l t)
        obtain ⟨tk,tn,tt,⟨t1,t2,t3,t4⟩,ta⟩:=t
        clear htk hn2
        simp only [fF,tkA]
        go_wp2_with (at_builtin; refine wpList_append_lies _ rfl _ _ _ rfl w.heap.size 97 i0 _ 8 72 underlying88 hi hz0 hz1 hz2 rfl (by omega) _ _ _ rfl ((HR5.out.own.alloc _).alloc _) ⟨w5.heap.size+1,0,none⟩ 1 1 (bN ⟨tk,tn,tt,⟨t1,t2,t3,t4⟩,ta⟩) rfl rfl (World.news_of_block (cs:=(bN ⟨tk,tn,tt,⟨t1,t2,t3,t4⟩,ta⟩).toArray) (t:=97) (fr:=(0,0)) (by rw [show w5.heap.size+1=(w5.alloc (.cells (bN ⟨tk,tn,tt,⟨t1,t2,t3,t4⟩,ta⟩).toArray 97)).heap.size by simp]; exact heap_alloc_new _ _)) (by intro u hu; simp [bN] at hu; rcases hu with rfl | rfl | rfl | rfl | rfl | rfl | rfl | rfl <;> rfl) (by omega) (by unfold maxLen; omega) (by omega) (by have:=HR5.out.ok.bel.size; simp; omega) _ rfl ?_; intro g cap w3 hown3 hgrow3 hat3 hlt3)
        go_roundg (s.size - (k+n))
        case rel=>exact ⟨k+n,l++[⟨tk,tn,tt,⟨t1,t2,t3,t4⟩,ta⟩],hn4,rfl,by go_num,by simp; omega,HTK,by rw [HTR.out,List.length_append]; exact Lib.hid (((HR5.out.alloc_obj _).alloc_obj _).appended hown3 hgrow3 hat3)⟩
        case measure=>omega
      ·have hix:=(dM (.func (.func 103) #[.pointer (some ⟨w.heap.size,0,none⟩)] #[]) (.func (.func 104) #[.pointer (some ⟨w.heap.size,0,none⟩)] #[]) (.func (.func 105) #[.pointer (some ⟨w.heap.size,0,none⟩)] #[]) (.func (.func 106) #[.pointer (some ⟨w.heap.size,0,none⟩)] #[]) (.func (.func 107) #[.pointer (some ⟨w.heap.size,0,none⟩)] #[]) wp).1.2.1
       go_wp2_with fail
       clear hix
       refine (mK s w.heap.size k _ h256 hks HALL.out HCR.out).mono ?_
       rintro e w5 ⟨rfl,hb5⟩
       have HR5:=Lib.hid (HR.out.below hb5)
       clear hb5 hcr HCR HR
       obtain ⟨x,hx⟩:=ex (gb (aK s k) k)
       have HX:=keep (show d4 1 (s.data.toList.drop k) k=x from hx)
       rw [hx]
       clear hx
       cases x with
       | none =>
        rw [eD]
        go_wp2_with fail
        go_roundg (5 - (1+1))
        case rel=>exact ⟨2,by omega,rfl,rfl,rfl,by go_num,keep (co.next HN.out HX.out),Lib.hid (HR5.out.alloc_obj _)⟩
        case measure=>omega
       | some q =>
        have htk:=fG HKL.out (by decide) HN.out HX.out
        obtain ⟨t,n⟩:=q
        have hle:=fI htk
        have HTK:=keep (Tks.tok HT.out HKL.out HB.out htk)
        obtain ⟨hn1,hn2⟩:=hle
        rw [List.length_drop,HSL.out] at hn2
        have hn3:(n:Int)>0:=by omega
        have hn4:k+n≤s.size:=by omega
        have HTR:=keep (cY l t)
        obtain ⟨tk,tn,tt,⟨t1,t2,t3,t4⟩,ta⟩:=t
        clear htk hn2
        simp only [fF,tkA]
        go_wp2_with (at_builtin; refine wpList_append_lies _ rfl _ _ _ rfl w.heap.size 97 i0 _ 8 72 underlying88 hi hz0 hz1 hz2 rfl (by omega) _ _ _ rfl ((HR5.out.own.alloc _).alloc _) ⟨w5.heap.size+1,0,none⟩ 1 1 (bN ⟨tk,tn,tt,⟨t1,t2,t3,t4⟩,ta⟩) rfl rfl (World.news_of_block (cs:=(bN ⟨tk,tn,tt,⟨t1,t2,t3,t4⟩,ta⟩).toArray) (t:=97) (fr:=(0,0)) (by rw [show w5.heap.size+1=(w5.alloc (.cells (bN ⟨tk,tn,tt,⟨t1,t2,t3,t4⟩,ta⟩).toArray 97)).heap.size by simp]; exact heap_alloc_new _ _)) (by intro u hu; simp [bN] at hu; rcases hu with rfl | rfl | rfl | rfl | rfl | rfl | rfl | rfl <;> rfl) (by omega) (by unfold maxLen; omega) (by omega) (by have:=HR5.out.ok.bel.size; simp; omega) _ rfl ?_; intro g cap w3 hown3 hgrow3 hat3 hlt3)
        go_roundg (s.size - (k+n))
        case rel=>exact ⟨k+n,l++[⟨tk,tn,tt,⟨t1,t2,t3,t4⟩,ta⟩],hn4,rfl,by go_num,by simp; omega,HTK,by rw [HTR.out,List.length_append]; exact Lib.hid (((HR5.out.alloc_obj _).alloc_obj _).appended hown3 hgrow3 hat3)⟩
        case measure=>omega
      ·have hix:=(dM (.func (.func 103) #[.pointer (some ⟨w.heap.size,0,none⟩)] #[]) (.func (.func 104) #[.pointer (some ⟨w.heap.size,0,none⟩)] #[]) (.func (.func 105) #[.pointer (some ⟨w.heap.size,0,none⟩)] #[]) (.func (.func 106) #[.pointer (some ⟨w.heap.size,0,none⟩)] #[]) (.func (.func 107) #[.pointer (some ⟨w.heap.size,0,none⟩)] #[]) wp).1.2.2
       go_wp2_with fail
       clear hix
       refine (mL s w.heap.size k _ (by omega) hks HCR.out).mono ?_
       rintro e w5 ⟨rfl,hb5⟩
       have HR5:=Lib.hid (HR.out.below hb5)
       clear hb5 hcr HCR HR
       obtain ⟨x,hx⟩:=ex (bX (aK s k) k)
       have HX:=keep (show d4 2 (s.data.toList.drop k) k=x from hx)
       rw [hx]
       clear hx
       cases x with
       | none =>
        rw [eD]
        go_wp2_with fail
        go_roundg (5 - (2+1))
        case rel=>exact ⟨3,by omega,rfl,rfl,rfl,by go_num,keep (co.next HN.out HX.out),Lib.hid (HR5.out.alloc_obj _)⟩
        case measure=>omega
       | some q =>
        have htk:=fG HKL.out (by decide) HN.out HX.out
        obtain ⟨t,n⟩:=q
        have hle:=fI htk
        have HTK:=keep (Tks.tok HT.out HKL.out HB.out htk)
        obtain ⟨hn1,hn2⟩:=hle
        rw [List.length_drop,HSL.out] at hn2
        have hn3:(n:Int)>0:=by omega
        have hn4:k+n≤s.size:=by omega
        have HTR:=keep (cY l t)
        obtain ⟨tk,tn,tt,⟨t1,t2,t3,t4⟩,ta⟩:=t
        clear htk hn2
        simp only [fF,tkA]
        go_wp2_with (at_builtin; refine wpList_append_lies _ rfl _ _ _ rfl w.heap.size 97 i0 _ 8 72 underlying88 hi hz0 hz1 hz2 rfl (by omega) _ _ _ rfl ((HR5.out.own.alloc _).alloc _) ⟨w5.heap.size+1,0,none⟩ 1 1 (bN ⟨tk,tn,tt,⟨t1,t2,t3,t4⟩,ta⟩) rfl rfl (World.news_of_block (cs:=(bN ⟨tk,tn,tt,⟨t1,t2,t3,t4⟩,ta⟩).toArray) (t:=97) (fr:=(0,0)) (by rw [show w5.heap.size+1=(w5.alloc (.cells (bN ⟨tk,tn,tt,⟨t1,t2,t3,t4⟩,ta⟩).toArray 97)).heap.size by simp]; exact heap_alloc_new _ _)) (by intro u hu; simp [bN] at hu; rcases hu with rfl | rfl | rfl | rfl | rfl | rfl | rfl | rfl <;> rfl) (by omega) (by unfold maxLen; omega) (by omega) (by have:=HR5.out.ok.bel.size; simp; omega) _ rfl ?_; intro g cap w3 hown3 hgrow3 hat3 hlt3)
        go_roundg (s.size - (k+n))
        case rel=>exact ⟨k+n,l++[⟨tk,tn,tt,⟨t1,t2,t3,t4⟩,ta⟩],hn4,rfl,by go_num,by simp; omega,HTK,by rw [HTR.out,List.length_append]; exact Lib.hid (((HR5.out.alloc_obj _).alloc_obj _).appended hown3 hgrow3 hat3)⟩
        case measure=>omega
      ·have hix:=(dM (.func (.func 103) #[.pointer (some ⟨w.heap.size,0,none⟩)] #[]) (.func (.func 104) #[.pointer (some ⟨w.heap.size,0,none⟩)] #[]) (.func (.func 105) #[.pointer (some ⟨w.heap.size,0,none⟩)] #[]) (.func (.func 106) #[.pointer (some ⟨w.heap.size,0,none⟩)] #[]) (.func (.func 107) #[.pointer (some ⟨w.heap.size,0,none⟩)] #[]) wp).2.1
       go_wp2_with fail
       clear hix
       refine (mI s w.heap.size k _ (by omega) hks (HW.out.below HR.out.ok.bel) HCR.out).mono ?_
       rintro e w5 ⟨rfl,hb5⟩
       have HR5:=Lib.hid (HR.out.below hb5)
       clear hb5 hcr HCR HR
       obtain ⟨x,hx⟩:=ex (jw (aK s k) k)
       have HX:=keep (show d4 3 (s.data.toList.drop k) k=x from hx)
       rw [hx]
       clear hx
       cases x with
       | none =>
        rw [eD]
        go_wp2_with fail
        go_roundg (5 - (3+1))
        case rel=>exact ⟨4,by omega,rfl,rfl,rfl,by go_num,keep (co.next HN.out HX.out),Lib.hid (HR5.out.alloc_obj _)⟩
        case measure=>omega
       | some q =>
        have htk:=fG HKL.out (by decide) HN.out HX.out
        obtain ⟨t,n⟩:=q
        have hle:=fI htk
        have HTK:=keep (Tks.tok HT.out HKL.out HB.out htk)
        obtain ⟨hn1,hn2⟩:=hle
        rw [List.length_drop,HSL.out] at hn2
        have hn3:(n:Int)>0:=by omega
        have hn4:k+n≤s.size:=by omega
        have HTR:=keep (cY l t)
        obtain ⟨tk,tn,tt,⟨t1,t2,t3,t4⟩,ta⟩:=t
        clear htk hn2
        simp only [fF,tkA]
        go_wp2_with (at_builtin; refine wpList_append_lies _ rfl _ _ _ rfl w.heap.size 97 i0 _ 8 72 underlying88 hi hz0 hz1 hz2 rfl (by omega) _ _ _ rfl ((HR5.out.own.alloc _).alloc _) ⟨w5.heap.size+1,0,none⟩ 1 1 (bN ⟨tk,tn,tt,⟨t1,t2,t3,t4⟩,ta⟩) rfl rfl (World.news_of_block (cs:=(bN ⟨tk,tn,tt,⟨t1,t2,t3,t4⟩,ta⟩).toArray) (t:=97) (fr:=(0,0)) (by rw [show w5.heap.size+1=(w5.alloc (.cells (bN ⟨tk,tn,tt,⟨t1,t2,t3,t4⟩,ta⟩).toArray 97)).heap.size by simp]; exact heap_alloc_new _ _)) (by intro u hu; simp [bN] at hu; rcases hu with rfl | rfl | rfl | rfl | rfl | rfl | rfl | rfl <;> rfl) (by omega) (by unfold maxLen; omega) (by omega) (by have:=HR5.out.ok.bel.size; simp; omega) _ rfl ?_; intro g cap w3 hown3 hgrow3 hat3 hlt3)
        go_roundg (s.size - (k+n))
        case rel=>exact ⟨k+n,l++[⟨tk,tn,tt,⟨t1,t2,t3,t4⟩,ta⟩],hn4,rfl,by go_num,by simp; omega,HTK,by rw [HTR.out,List.length_append]; exact Lib.hid (((HR5.out.alloc_obj _).alloc_obj _).appended hown3 hgrow3 hat3)⟩
        case measure=>omega
      have hix:=(dM (.func (.func 103) #[.pointer (some ⟨w.heap.size,0,none⟩)] #[]) (.func (.func 104) #[.pointer (some ⟨w.heap.size,0,none⟩)] #[]) (.func (.func 105) #[.pointer (some ⟨w.heap.size,0,none⟩)] #[]) (.func (.func 106) #[.pointer (some ⟨w.heap.size,0,none⟩)] #[]) (.func (.func 107) #[.pointer (some ⟨w.heap.size,0,none⟩)] #[]) wp).2.2
      go_wp2_with fail
      clear hix
      refine (mJ s w.heap.size k _ (by omega) hks HCR.out).mono ?_
      rintro e w5 ⟨rfl,hb5⟩
      have HR5:=Lib.hid (HR.out.below hb5)
      clear hb5 hcr HCR HR
      obtain ⟨x,hx⟩:=ex (dP (aK s k) k)
      have HX:=keep (show d4 4 (s.data.toList.drop k) k=x from hx)
      rw [hx]
      clear hx
      cases x with
      | none =>
       rw [eD]
       go_wp2_with fail
       go_roundg (5 - (4+1))
       case rel=>exact ⟨5,by omega,rfl,rfl,rfl,by go_num,keep (co.next HN.out HX.out),Lib.hid (HR5.out.alloc_obj _)⟩
       case measure=>omega
      | some q =>
       have htk:=fG HKL.out (by decide) HN.out HX.out
       obtain ⟨t,n⟩:=q
       have hle:=fI htk
       have HTK:=keep (Tks.tok HT.out HKL.out HB.out htk)
       obtain ⟨hn1,hn2⟩:=hle
       rw [List.length_drop,HSL.out] at hn2
       have hn3:(n:Int)>0:=by omega
       have hn4:k+n≤s.size:=by omega
       have HTR:=keep (cY l t)
       obtain ⟨tk,tn,tt,⟨t1,t2,t3,t4⟩,ta⟩:=t
       clear htk hn2
       simp only [fF,tkA]
       go_wp2_with (at_builtin; refine wpList_append_lies _ rfl _ _ _ rfl w.heap.size 97 i0 _ 8 72 underlying88 hi hz0 hz1 hz2 rfl (by omega) _ _ _ rfl ((HR5.out.own.alloc _).alloc _) ⟨w5.heap.size+1,0,none⟩ 1 1 (bN ⟨tk,tn,tt,⟨t1,t2,t3,t4⟩,ta⟩) rfl rfl (World.news_of_block (cs:=(bN ⟨tk,tn,tt,⟨t1,t2,t3,t4⟩,ta⟩).toArray) (t:=97) (fr:=(0,0)) (by rw [show w5.heap.size+1=(w5.alloc (.cells (bN ⟨tk,tn,tt,⟨t1,t2,t3,t4⟩,ta⟩).toArray 97)).heap.size by simp]; exact heap_alloc_new _ _)) (by intro u hu; simp [bN] at hu; rcases hu with rfl | rfl | rfl | rfl | rfl | rfl | rfl | rfl <;> rfl) (by omega) (by unfold maxLen; omega) (by omega) (by have:=HR5.out.ok.bel.size; simp; omega) _ rfl ?_; intro g cap w3 hown3 hgrow3 hat3 hlt3)
       go_roundg (s.size - (k+n))
       case rel=>exact ⟨k+n,l++[⟨tk,tn,tt,⟨t1,t2,t3,t4⟩,ta⟩],hn4,rfl,by go_num,by simp; omega,HTK,by rw [HTR.out,List.length_append]; exact Lib.hid (((HR5.out.alloc_obj _).alloc_obj _).appended hown3 hgrow3 hat3)⟩
       case measure=>omega
     obtain rfl:j=5:=by omega
     have hbad:=HTP.out
     rw [Tks.bad HT.out HKL.out HB.out (rJ HKL.out HN.out)] at hbad
     have HBAD:=keep (show aM s.data.toList=([],(k:Int),4) from hbad)
     clear hbad
     go_wp2_with fail
     try rw [Exit.noGoto_ret]
     exact bodyPost_ret (v:=.tuple #[.slice none 0 0,.int .i64 (k:Int),.int .i64 4]) (by simp [results,results61,go_sem]) rfl (eV HBAD.out HR.out.ok.bel)
   obtain rfl:k=s.size:=by omega
   have hok:=HTP.out
   have hT:=HT.out
   rw [← HSL.out] at hT
   rw [Tks.done hT] at hok
   have HOK:=keep (show aM s.data.toList=(l,0,0) from hok)
   clear hok hT
   go_wp2_with fail
   try rw [Exit.noGoto_ret]
   exact bodyPost_ret (v:=.tuple #[lv,.int .i64 0,.int .i64 0]) (by simp [results,results61,go_sem]) rfl ⟨lv,by rw [HOK.out],by rw [HOK.out]; exact HR.out.own,HR.out.ok.bel⟩
