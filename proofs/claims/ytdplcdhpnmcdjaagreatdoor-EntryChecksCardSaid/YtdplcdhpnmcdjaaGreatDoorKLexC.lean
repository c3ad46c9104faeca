/- Contracts of the lexer's tests of bytes. The iterator piece of the lexer, and length: how many bytes from a place on pass a test. Plain helpers: a row of bytes of the call's own (as in XAddrC, without the law's capitals). The contract of glyph.Upper. Contracts of dec.digits, dec.signed and of the lexer's next and plain. -/
import Derived.Test.YtdplcdhpnmcdjaaGreatDoorKLexP
import Derived.Test.YtdplcdhpnmcdjaaGreatDoorKTg
import Derived.Test.YtdplcdhpnmcdjaaGreatDoorKVal
import Derived.IntWalk
import Derived.Test.YtdplcdhpnmcdjaaGreatDoorKAddrP
import Derived.Laws.IdiomStrings
import Derived.Test.YtdplcdhpnmcdjaaGreatDoorKShelf
import Derived.RangeFuncBox
import Derived.RangeFuncNested
import Derived.Lib.Strings
namespace Go.Proofs.YtdplcdhpnmcdjaaGreatDoor
set_option maxRecDepth 100000
set_option maxHeartbeats 4000000
section
open Go.RowKit Go.Proofs.Tryz
theorem dw (b:UInt8):ah b=(decide (48≤(b.toNat:Int)) && decide ((b.toNat:Int)≤57)):=by
 unfold ah
 rw [Bool.eq_iff_iff]
 simp only [Bool.and_eq_true,decide_eq_true_eq]
 omega
theorem o1 (b:UInt8):ar b=true↔(65≤b.toNat∧b.toNat≤90)∨(97≤b.toNat∧b.toNat≤122):=by
 unfold ar dz
 split
 ·simp; omega
 split
 ·simp; omega
 simp; omega
theorem ep (b:UInt8) (w:World) :
  Calls prog 156 #[.int .u8 b.toNat] w fun e w'=>e=.returned (.bool (ah b))∧w'=w:=by
 rw [dw]
 generalize (b.toNat:Int)=x
 by_cases h1:48≤x
 ·go_enter func156,ntmps156
  go_wp2_with fail
  go_ret
  exact ⟨by simp <;> omega,rfl⟩
 go_enter func156,ntmps156
 go_wp2_with fail
 go_ret
 exact ⟨by simp <;> omega,rfl⟩
theorem eM (b:UInt8) (w:World) :
  Calls prog 158 #[.int .u8 b.toNat] w fun e w'=>e=.returned (.bool (ar b))∧w'=w:=by
 have hb:=o1 b
 generalize ar b=v at hb
 obtain ⟨x,hx⟩:∃ x:Int,(b.toNat:Int)=x:=⟨_,rfl⟩
 have hv:v=decide ((65≤x∧x≤90)∨(97≤x∧x≤122)):=by
  rw [Bool.eq_iff_iff,hb,decide_eq_true_eq]
  omega
 rw [hx,hv]
 clear hb hx hv
 by_cases h1:65≤x <;> by_cases h2:x≤90 <;> by_cases h3:97≤x
 all_goals
  go_enter func158,ntmps158
  go_wp2_with fail
  go_ret
  exact ⟨by simp <;> omega,rfl⟩
theorem tY (b:UInt8) (w:World) :
  Calls prog 197 #[.int .u8 b.toNat] w fun e w'=>e=.returned (.bool (au b))∧w'=w:=by
 go_enter func197,ntmps197
 go_wp2_with fail
 refine (eM _ _).mono ?_
 rintro e w1 ⟨rfl,rfl⟩
 cases hl:ar b
 ·go_wp2_with fail
  refine (ep _ _).mono ?_
  rintro e w2 ⟨rfl,rfl⟩
  have hd:au b=ah b:=by unfold au; rw [hl]; rfl
  go_wp2_with fail
  go_ret
  exact ⟨by rw [hd]; rfl,rfl⟩
 have hd:au b=true:=by unfold au; rw [hl]; rfl
 go_wp2_with fail
 go_ret
 exact ⟨by rw [hd]; rfl,rfl⟩
end
section
open Go.RowKit Go.Proofs.Tryz
attribute [local go_sem] Oper.semAt_some
def ax (l:List UInt8):List Value:=l.map fun b=>.int .u8 b.toNat
theorem kG (s:ByteArray) (i:Int) (g:Nat) (w:World) :
  Calls prog 196 #[.string s,.int .i64 i,.func (.func g) #[] #[]] w fun e w'=>e=.returned (.func (.func 213) #[] #[.pointer (some ⟨w.heap.size+1,0,none⟩),.pointer (some ⟨w.heap.size,0,none⟩),.pointer (some ⟨w.heap.size+2,0,none⟩)]) ∧
   w'=((w.alloc (.cells #[.string s] 9)).alloc (.cells #[.int .i64 i] 3)).alloc (.cells #[.func (.func g) #[] #[]] 172):=by
 go_enter func196,ntmps196
 go_wp2
 go_ret
 exact ⟨rfl,rfl⟩
def cq (s:ByteArray) (i:Nat):List UInt8:=(s.data.toList.drop i).takeWhile ah
theorem qm (m:Nat) (hm:2≤m) (s:ByteArray) (i:Nat) (hi:i≤s.size) (hs:s.size≤4611686018427387904) (o:Nat) (w:World) (h1:Boxed w o 9 (.string s)) (h2:Boxed w (o+1) 3 (.int .i64 (i:Int))) (h3:Boxed w (o+2) 172 (.func (.func 156) #[] #[])) :
  nf Fence.wide m prog 213 #[.pointer (some ⟨o+1,0,none⟩),.pointer (some ⟨o,0,none⟩),.pointer (some ⟨o+2,0,none⟩)] [o,o+1,o+2] (fun _=>True) (ax (cq s i)) w:=by
 intro l J W _ hdrew hY ho h0
 have hB1:Boxed W o 9 (.string s):=(ho o (by simp)).trans h1
 have hB2:Boxed W (o+1) 3 (.int .i64 (i:Int)):=(ho (o+1) (by simp)).trans h2
 have hB3:Boxed W (o+2) 172 (.func (.func 156) #[] #[]):=(ho (o+2) (by simp)).trans h3
 have HD:=Lib.hid hdrew
 have HY:=Lib.hid hY
 have h1':1≤m - 1:=by omega
 have hc:=hB2.cell
 refine callsIn_of_wp func213 rfl trivial ?_ rfl
 simp only [ntmps213,List.size_toArray,List.length_cons,List.length_nil,Nat.reduceAdd,Nat.reduceSub,Array.replicate_succ,Array.replicate_zero,List.push_toArray,List.append_toArray,List.nil_append,List.cons_append]
 have HB1:=Lib.hid hB1
 have HB2:=Lib.hid hB2
 have HB3:=Lib.hid hB3
 clear hdrew hY ho h1 h2 h3 hB1 hB2 hB3
 gi_wp2
 clear hc
 gi_loopw [5] (fun iv wr=>∃ (pre:List Value) (k:Nat),i+k≤s.size∧iv=.int .i64 ((i+k:Nat):Int)∧ao (ax (cq s i)=pre++ax (cq s (i+k)))∧Hid (Boxed wr o 9 (.string s))∧Hid (Boxed wr (o+1) 3 (.int .i64 (i:Int)))∧Hid (Boxed wr (o+2) 172 (.func (.func 156) #[] #[]))∧Hid (J pre wr)) (fun iv _=>s.size - (intOf iv).toNat)
 case atStart=>exact ⟨[],0,hi,rfl,keep rfl,HB1,HB2,HB3,h0⟩
 case round =>
  clear HB1 HB2 HB3
  obtain ⟨pre,k,hk,rfl,HX,HB1,HB2,HB3,HJ⟩:=hrel
  obtain ⟨q,hq⟩:=ex (i+k)
  rw [hq] at hk HX ⊢
  by_cases hlt:(q:Int)<s.size
  ·have hsl:s.data.toList.length=s.size:=by rw [Array.length_toList]; rfl
   have hqs:q<s.size:=by omega
   have hdrop : s.data.toList.drop q = s[q]'hqs :: s.data.toList.drop (q + 1):=List.drop_eq_getElem_cons (by omega)
   have hrun : cq s q = if ah (s[q]'hqs) = true then s[q]'hqs :: cq s (q + 1) else []:=by
    unfold cq
    rw [hdrop,List.takeWhile_cons]
   have HR:=keep hrun
   clear hsl hdrop hrun
   gi_wp2_with fail
   refine wpIn_wide.2 ?_
   refine wp_region_held_drew (S:=fun W=>(Boxed W o 9 (.string s)∧Boxed W (o+1) 3 (.int .i64 (i:Int))∧Boxed W (o+2) 172 (.func (.func 156) #[] #[]))∧J pre W) (by kernel_rfl) ⟨⟨HB1.out,HB2.out,HB3.out⟩,HD.out _ _ HJ.out⟩ (fun hHeld => ?_)
   refine wtb 0 ?_
   refine wtb 1 ?_
   refine wtb 2 ?_
   refine wtb 3 ?_
   refine wtb 4 ?_
   refine wtb 5 ?_
   refine wtb 6 ?_
   refine wtb 7 ?_
   refine wtb 8 ?_
   refine wal 9 fun K hK => ?_
   go_simp
   refine (ep _ _).mono ?_
   rintro e w6 ⟨rfl,rfl⟩
   go_wp2_with fail
   refine hK.out _ _ hHeld (fun hHeld => ?_)
   clear hK K
   refine wn ?_
   refine wtb 10 ?_
   refine wpAnyH_done (by kernel_rfl) ?_ _
   clear hHeld
   generalize hv : ah (s[q]'hqs) = v
   have HV:=keep hv
   clear hv
   cases v
   ·gi_wp2_with fail
    go_end0
    refine ⟨⟨_,rfl⟩,?_⟩
    have hx:=HX.out
    rw [HR.out,HV.out,if_neg (by decide),show ax []=[] from rfl,List.append_nil] at hx
    rw [hx]
    exact HD.out _ _ HJ.out
   have hx:=HX.out
   rw [HR.out,HV.out,if_pos rfl,show ax (s[q]'hqs :: cq s (q + 1)) = [.int .u8 (s[q]'hqs).toNat] ++ ax (cq s (q + 1)) from rfl,← List.append_assoc] at hx
   obtain ⟨fn,tmps,assign,body,hy,hR⟩:=HY.out pre (.int .u8 (s[q]'hqs).toNat) wr.drew (HD.out _ _ HJ.out) ⟨_,hx.symm⟩
   have HX2:=keep hx
   clear hx
   have e1:wr.drew.cell? ⟨o,0,none⟩=some (.string s):=HB1.out.cell
   gi_wp2_with fail
   refine ⟨fun _=>by omega,hR.mono ?_⟩
   rintro e W3 ⟨rfl,hJ3,ho3⟩
   clear hR hy e1
   gi_wp2_with fail
   go_roundw
   case rel => exact ⟨pre ++ [.int .u8 (s[q]'hqs).toNat],k + 1,by omega,by rw [← hq]; go_num,keep (by rw [show i + (k + 1) = q + 1 from by omega]; exact HX2.out),Lib.hid ((ho3 o (by simp)).trans HB1.out),Lib.hid ((ho3 (o + 1) (by simp)).trans HB2.out),Lib.hid ((ho3 (o + 2) (by simp)).trans HB3.out),Lib.hid hJ3⟩
   case measure=>simp [intOf]; omega
  obtain rfl:q=s.size:=by omega
  gi_wp2_with fail
  refine wpIn_wide.2 ?_
  refine wp_region_held_drew (S:=fun W=>(Boxed W o 9 (.string s)∧Boxed W (o+1) 3 (.int .i64 (i:Int))∧Boxed W (o+2) 172 (.func (.func 156) #[] #[]))∧J pre W) (by kernel_rfl) ⟨⟨HB1.out,HB2.out,HB3.out⟩,HD.out _ _ HJ.out⟩ (fun hHeld => ?_)
  refine wtb 0 ?_
  refine wtb 1 ?_
  refine wtb 2 ?_
  refine wtb 3 ?_
  refine wtb 4 ?_
  refine wsk 5 ?_
  refine wsk 6 ?_
  refine wsk 7 ?_
  refine wsk 8 ?_
  refine wsk 9 ?_
  refine wtb 10 ?_
  refine wpAnyH_done (by kernel_rfl) ?_ _
  clear hHeld
  gi_wp2_with fail
  go_end0
  refine ⟨⟨_,rfl⟩,?_⟩
  have hx:=HX.out
  rw [show cq s s.size=[] from by unfold cq; rw [List.drop_of_length_le (by rw [Array.length_toList]; exact Nat.le_refl _)]; rfl,show ax []=[] from rfl,List.append_nil] at hx
  rw [hx]
  exact HD.out _ _ HJ.out
def qQ (w:World) (pre:List Value) (W:World):Prop:=Boxed W w.heap.size 3 (.int .i64 (pre.length:Int))∧Below w.heap.size w W
theorem cI (s:ByteArray) (i:Nat) (w:World) (hi:i≤s.size) (hs:s.size≤4611686018427387904) :
  Calls prog 155 #[.string s,.int .i64 (i:Int),.func (.func 156) #[] #[]] w fun e w'=>e=.returned (.int .i64 ((cq s i).length:Int))∧Below w.heap.size w w':=by
 refine (callsIn_wide (n:=4)).1 ?_
 refine callsIn_of_wp_marks func155 rfl trivial ?_ rfl
 simp only [ntmps155,List.size_toArray,List.length_cons,List.length_nil,Nat.reduceAdd,Nat.reduceSub,Array.replicate_succ,Array.replicate_zero,List.push_toArray,List.append_toArray,List.nil_append,List.cons_append]
 gi_wp2_with fail
 refine ⟨trivial,((callsIn_wide (n:=3)).2 (kG s (i:Int) 156 _)).mono ?_⟩
 rintro e w' ⟨rfl,rfl⟩
 gi_wp2
 have b0:=Boxed.new w 3 (.int .i64 0)
 have b1:=Boxed.new (w.alloc (.cells #[.int .i64 0] 3)) 9 (.string s)
 have b2:=Boxed.new ((w.alloc (.cells #[.int .i64 0] 3)).alloc (.cells #[.string s] 9)) 3 (.int .i64 (i:Int))
 have b3:=Boxed.new (((w.alloc (.cells #[.int .i64 0] 3)).alloc (.cells #[.string s] 9)).alloc (.cells #[.int .i64 (i:Int)] 3)) 172 (.func (.func 156) #[] #[])
 simp only [World.size_alloc] at b1 b2 b3
 have hB0:Below w.heap.size w ((((w.alloc (.cells #[.int .i64 0] 3)).alloc (.cells #[.string s] 9)).alloc (.cells #[.int .i64 (i:Int)] 3)).alloc (.cells #[.func (.func 156) #[] #[]] 172)):=((((Below.refl _ w).alloc (Nat.le_refl _) _).alloc (by simp) _).alloc (by simp; omega) _).alloc (by simp; omega) _
 have hrl:(cq s i).length≤s.size:=by
  unfold cq
  refine Nat.le_trans (List.takeWhile_prefix _).length_le ?_
  rw [List.length_drop,Array.length_toList]
  exact Nat.sub_le _ _
 have HRL:=keep hrl
 clear hrl
 refine gZ rfl (by decide) (gf:=213) (lb:=#[.pointer (some ⟨w.heap.size+1+1,0,none⟩),.pointer (some ⟨w.heap.size+1,0,none⟩),.pointer (some ⟨w.heap.size+1+2,0,none⟩)]) rfl trivial (enters_of func213 (by kernel_rfl) rfl)
  (ax (cq s i)) rfl [w.heap.size+1,w.heap.size+1+1,w.heap.size+1+2] (by simp) (qm 3 (by decide) s i hi hs (w.heap.size+1) _ ((b1.alloc _).alloc _) (b2.alloc _) b3)
  (qQ w) ?put (fun _ _ ob h=>⟨h.1.alloc ob,h.2.alloc h.2.size ob⟩) (fun _ _ h=>⟨h.1,h.2.drew⟩) (fun _ _ _=>trivial)
  ⟨((b0.alloc _).alloc _).alloc _,hB0⟩
  (fun x=>{ tmps:=#[.string s,.int .i64 (i:Int),.func (.func 156) #[] #[],undef,undef,undef,.int .i64 0,.pointer (some ⟨w.heap.size,0,none⟩),.string s,.int .i64 (i:Int),.func (.func 156) #[] #[],.func (.func 213) #[] #[.pointer (some ⟨w.heap.size+1+1,0,none⟩),.pointer (some ⟨w.heap.size+1,0,none⟩),.pointer (some ⟨w.heap.size+1+2,0,none⟩)],x,undef,undef,undef],defers:=[] }) ?assign ?body ?done
 case put =>
  intro pre W l ob ob' h hl hlo hc
  simp at hl
  exact ⟨(World.putObj_heap_other (by omega)).trans h.1,h.2.os,h.2.tape,h.2.output,by simpa using h.2.size,fun j hj=>(World.putObj_heap_other (by omega)).trans (h.2.block j hj)⟩
 case assign =>
  intro l x W K hK
  gi_wp2
  simpa using hK
 case body =>
  rintro l pre x W hl ⟨hv,hB⟩ ho hpx
  have hc:=hv.cell
  have hf:=hv.frozen
  have hpl:pre.length<4611686018427387904:=by
   have:=hpx.length_le
   have h2:=HRL.out
   simp [ax] at this
   omega
  clear b0 b1 b2 b3
  gi_wp2_with fail
  refine ⟨KeepsFrom.of_grownBy (grownBy_setCell' W w.heap.size _) (fun j hj=>by obtain rfl:=Option.some.inj hj; simp; omega),⟨?_,hB.setCell (by simp) _⟩,fun o ho'=>Below.heap_setCell W ⟨w.heap.size,0,none⟩ _ _ (by simp at ho'; rcases ho' with rfl | rfl | rfl <;> simp <;> omega)⟩
  rw [List.length_append]
  exact hv.set _
 case done =>
  rintro D W hD ⟨hv,hB⟩ hK
  have hc:=hv.cell
  gi_wp2
  refine ⟨by simp,.inl ⟨_,_,rfl,run_takeDeferred hK,?_⟩⟩
  refine ⟨_,results_tmp rfl _ _ _,?_,hB.trans (belowK_b (w:=w) (Nat.le_refl _) W D _ _ (by simp at hD; omega) hK rfl rfl)⟩
  simp [ax]
def bC (s:ByteArray) (i:Nat):List UInt8:=(s.data.toList.drop i).takeWhile au
theorem qn (m:Nat) (hm:2≤m) (s:ByteArray) (i:Nat) (hi:i≤s.size) (hs:s.size≤4611686018427387904) (o:Nat) (w:World) (h1:Boxed w o 9 (.string s)) (h2:Boxed w (o+1) 3 (.int .i64 (i:Int))) (h3:Boxed w (o+2) 172 (.func (.func 197) #[] #[])) :
  nf Fence.wide m prog 213 #[.pointer (some ⟨o+1,0,none⟩),.pointer (some ⟨o,0,none⟩),.pointer (some ⟨o+2,0,none⟩)] [o,o+1,o+2] (fun _=>True) (ax (bC s i)) w:=by
 intro l J W _ hdrew hY ho h0
 have hB1:Boxed W o 9 (.string s):=(ho o (by simp)).trans h1
 have hB2:Boxed W (o+1) 3 (.int .i64 (i:Int)):=(ho (o+1) (by simp)).trans h2
 have hB3:Boxed W (o+2) 172 (.func (.func 197) #[] #[]):=(ho (o+2) (by simp)).trans h3
 have HD:=Lib.hid hdrew
 have HY:=Lib.hid hY
 have h1':1≤m - 1:=by omega
 have hc:=hB2.cell
 refine callsIn_of_wp func213 rfl trivial ?_ rfl
 simp only [ntmps213,List.size_toArray,List.length_cons,List.length_nil,Nat.reduceAdd,Nat.reduceSub,Array.replicate_succ,Array.replicate_zero,List.push_toArray,List.append_toArray,List.nil_append,List.cons_append]
 have HB1:=Lib.hid hB1
 have HB2:=Lib.hid hB2
 have HB3:=Lib.hid hB3
 clear hdrew hY ho h1 h2 h3 hB1 hB2 hB3
 gi_wp2
 clear hc
 gi_loopw [5] (fun iv wr=>∃ (pre:List Value) (k:Nat),i+k≤s.size∧iv=.int .i64 ((i+k:Nat):Int)∧ao (ax (bC s i)=pre++ax (bC s (i+k)))∧Hid (Boxed wr o 9 (.string s))∧Hid (Boxed wr (o+1) 3 (.int .i64 (i:Int)))∧Hid (Boxed wr (o+2) 172 (.func (.func 197) #[] #[]))∧Hid (J pre wr)) (fun iv _=>s.size - (intOf iv).toNat)
 case atStart=>exact ⟨[],0,hi,rfl,keep rfl,HB1,HB2,HB3,h0⟩
 case round =>
  clear HB1 HB2 HB3
  obtain ⟨pre,k,hk,rfl,HX,HB1,HB2,HB3,HJ⟩:=hrel
  obtain ⟨q,hq⟩:=ex (i+k)
  rw [hq] at hk HX ⊢
  by_cases hlt:(q:Int)<s.size
  ·have hsl:s.data.toList.length=s.size:=by rw [Array.length_toList]; rfl
   have hqs:q<s.size:=by omega
   have hdrop : s.data.toList.drop q = s[q]'hqs :: s.data.toList.drop (q + 1):=List.drop_eq_getElem_cons (by omega)
   have hrun : bC s q = if au (s[q]'hqs) = true then s[q]'hqs :: bC s (q + 1) else []:=by
    unfold bC
    rw [hdrop,List.takeWhile_cons]
   have HR:=keep hrun
   clear hsl hdrop hrun
   gi_wp2_with fail
   refine wpIn_wide.2 ?_
   refine wp_region_held_drew (S:=fun W=>(Boxed W o 9 (.string s)∧Boxed W (o+1) 3 (.int .i64 (i:Int))∧Boxed W (o+2) 172 (.func (.func 197) #[] #[]))∧J pre W) (by kernel_rfl) ⟨⟨HB1.out,HB2.out,HB3.out⟩,HD.out _ _ HJ.out⟩ (fun hHeld => ?_)
   refine wtb 0 ?_
   refine wtb 1 ?_
   refine wtb 2 ?_
   refine wtb 3 ?_
   refine wtb 4 ?_
   refine wtb 5 ?_
   refine wtb 6 ?_
   refine wtb 7 ?_
   refine wtb 8 ?_
   refine wal 9 fun K hK => ?_
   go_simp
   refine (tY _ _).mono ?_
   rintro e w6 ⟨rfl,rfl⟩
   go_wp2_with fail
   refine hK.out _ _ hHeld (fun hHeld => ?_)
   clear hK K
   refine wn ?_
   refine wtb 10 ?_
   refine wpAnyH_done (by kernel_rfl) ?_ _
   clear hHeld
   generalize hv : au (s[q]'hqs) = v
   have HV:=keep hv
   clear hv
   cases v
   ·gi_wp2_with fail
    go_end0
    refine ⟨⟨_,rfl⟩,?_⟩
    have hx:=HX.out
    rw [HR.out,HV.out,if_neg (by decide),show ax []=[] from rfl,List.append_nil] at hx
    rw [hx]
    exact HD.out _ _ HJ.out
   have hx:=HX.out
   rw [HR.out,HV.out,if_pos rfl,show ax (s[q]'hqs :: bC s (q + 1)) = [.int .u8 (s[q]'hqs).toNat] ++ ax (bC s (q + 1)) from rfl,← List.append_assoc] at hx
   obtain ⟨fn,tmps,assign,body,hy,hR⟩:=HY.out pre (.int .u8 (s[q]'hqs).toNat) wr.drew (HD.out _ _ HJ.out) ⟨_,hx.symm⟩
   have HX2:=keep hx
   clear hx
   have e1:wr.drew.cell? ⟨o,0,none⟩=some (.string s):=HB1.out.cell
   gi_wp2_with fail
   refine ⟨fun _=>by omega,hR.mono ?_⟩
   rintro e W3 ⟨rfl,hJ3,ho3⟩
   clear hR hy e1
   gi_wp2_with fail
   go_roundw
   case rel => exact ⟨pre ++ [.int .u8 (s[q]'hqs).toNat],k + 1,by omega,by rw [← hq]; go_num,keep (by rw [show i + (k + 1) = q + 1 from by omega]; exact HX2.out),Lib.hid ((ho3 o (by simp)).trans HB1.out),Lib.hid ((ho3 (o + 1) (by simp)).trans HB2.out),Lib.hid ((ho3 (o + 2) (by simp)).trans HB3.out),Lib.hid hJ3⟩
   case measure=>simp [intOf]; omega
  obtain rfl:q=s.size:=by omega
  gi_wp2_with fail
  refine wpIn_wide.2 ?_
  refine wp_region_held_drew (S:=fun W=>(Boxed W o 9 (.string s)∧Boxed W (o+1) 3 (.int .i64 (i:Int))∧Boxed W (o+2) 172 (.func (.func 197) #[] #[]))∧J pre W) (by kernel_rfl) ⟨⟨HB1.out,HB2.out,HB3.out⟩,HD.out _ _ HJ.out⟩ (fun hHeld => ?_)
  refine wtb 0 ?_
  refine wtb 1 ?_
  refine wtb 2 ?_
  refine wtb 3 ?_
  refine wtb 4 ?_
  refine wsk 5 ?_
  refine wsk 6 ?_
  refine wsk 7 ?_
  refine wsk 8 ?_
  refine wsk 9 ?_
  refine wtb 10 ?_
  refine wpAnyH_done (by kernel_rfl) ?_ _
  clear hHeld
  gi_wp2_with fail
  go_end0
  refine ⟨⟨_,rfl⟩,?_⟩
  have hx:=HX.out
  rw [show bC s s.size=[] from by unfold bC; rw [List.drop_of_length_le (by rw [Array.length_toList]; exact Nat.le_refl _)]; rfl,show ax []=[] from rfl,List.append_nil] at hx
  rw [hx]
  exact HD.out _ _ HJ.out
theorem nP (s:ByteArray) (i:Nat) (w:World) (hi:i≤s.size) (hs:s.size≤4611686018427387904) :
  Calls prog 155 #[.string s,.int .i64 (i:Int),.func (.func 197) #[] #[]] w fun e w'=>e=.returned (.int .i64 ((bC s i).length:Int))∧Below w.heap.size w w':=by
 refine (callsIn_wide (n:=4)).1 ?_
 refine callsIn_of_wp_marks func155 rfl trivial ?_ rfl
 simp only [ntmps155,List.size_toArray,List.length_cons,List.length_nil,Nat.reduceAdd,Nat.reduceSub,Array.replicate_succ,Array.replicate_zero,List.push_toArray,List.append_toArray,List.nil_append,List.cons_append]
 gi_wp2_with fail
 refine ⟨trivial,((callsIn_wide (n:=3)).2 (kG s (i:Int) 197 _)).mono ?_⟩
 rintro e w' ⟨rfl,rfl⟩
 gi_wp2
 have b0:=Boxed.new w 3 (.int .i64 0)
 have b1:=Boxed.new (w.alloc (.cells #[.int .i64 0] 3)) 9 (.string s)
 have b2:=Boxed.new ((w.alloc (.cells #[.int .i64 0] 3)).alloc (.cells #[.string s] 9)) 3 (.int .i64 (i:Int))
 have b3:=Boxed.new (((w.alloc (.cells #[.int .i64 0] 3)).alloc (.cells #[.string s] 9)).alloc (.cells #[.int .i64 (i:Int)] 3)) 172 (.func (.func 197) #[] #[])
 simp only [World.size_alloc] at b1 b2 b3
 have hB0:Below w.heap.size w ((((w.alloc (.cells #[.int .i64 0] 3)).alloc (.cells #[.string s] 9)).alloc (.cells #[.int .i64 (i:Int)] 3)).alloc (.cells #[.func (.func 197) #[] #[]] 172)):=((((Below.refl _ w).alloc (Nat.le_refl _) _).alloc (by simp) _).alloc (by simp; omega) _).alloc (by simp; omega) _
 have hrl:(bC s i).length≤s.size:=by
  unfold bC
  refine Nat.le_trans (List.takeWhile_prefix _).length_le ?_
  rw [List.length_drop,Array.length_toList]
  exact Nat.sub_le _ _
 have HRL:=keep hrl
 clear hrl
 refine gZ rfl (by decide) (gf:=213) (lb:=#[.pointer (some ⟨w.heap.size+1+1,0,none⟩),.pointer (some ⟨w.heap.size+1,0,none⟩),.pointer (some ⟨w.heap.size+1+2,0,none⟩)]) rfl trivial (enters_of func213 (by kernel_rfl) rfl)
  (ax (bC s i)) rfl [w.heap.size+1,w.heap.size+1+1,w.heap.size+1+2] (by simp) (qn 3 (by decide) s i hi hs (w.heap.size+1) _ ((b1.alloc _).alloc _) (b2.alloc _) b3)
  (qQ w) ?put (fun _ _ ob h=>⟨h.1.alloc ob,h.2.alloc h.2.size ob⟩) (fun _ _ h=>⟨h.1,h.2.drew⟩) (fun _ _ _=>trivial)
  ⟨((b0.alloc _).alloc _).alloc _,hB0⟩
  (fun x=>{ tmps:=#[.string s,.int .i64 (i:Int),.func (.func 197) #[] #[],undef,undef,undef,.int .i64 0,.pointer (some ⟨w.heap.size,0,none⟩),.string s,.int .i64 (i:Int),.func (.func 197) #[] #[],.func (.func 213) #[] #[.pointer (some ⟨w.heap.size+1+1,0,none⟩),.pointer (some ⟨w.heap.size+1,0,none⟩),.pointer (some ⟨w.heap.size+1+2,0,none⟩)],x,undef,undef,undef],defers:=[] }) ?assign ?body ?done
 case put =>
  intro pre W l ob ob' h hl hlo hc
  simp at hl
  exact ⟨(World.putObj_heap_other (by omega)).trans h.1,h.2.os,h.2.tape,h.2.output,by simpa using h.2.size,fun j hj=>(World.putObj_heap_other (by omega)).trans (h.2.block j hj)⟩
 case assign =>
  intro l x W K hK
  gi_wp2
  simpa using hK
 case body =>
  rintro l pre x W hl ⟨hv,hB⟩ ho hpx
  have hc:=hv.cell
  have hf:=hv.frozen
  have hpl:pre.length<4611686018427387904:=by
   have:=hpx.length_le
   have h2:=HRL.out
   simp [ax] at this
   omega
  clear b0 b1 b2 b3
  gi_wp2_with fail
  refine ⟨KeepsFrom.of_grownBy (grownBy_setCell' W w.heap.size _) (fun j hj=>by obtain rfl:=Option.some.inj hj; simp; omega),⟨?_,hB.setCell (by simp) _⟩,fun o ho'=>Below.heap_setCell W ⟨w.heap.size,0,none⟩ _ _ (by simp at ho'; rcases ho' with rfl | rfl | rfl <;> simp <;> omega)⟩
  rw [List.length_append]
  exact hv.set _
 case done =>
  rintro D W hD ⟨hv,hB⟩ hK
  have hc:=hv.cell
  gi_wp2
  refine ⟨by simp,.inl ⟨_,_,rfl,run_takeDeferred hK,?_⟩⟩
  refine ⟨_,results_tmp rfl _ _ _,?_,hB.trans (belowK_b (w:=w) (Nat.le_refl _) W D _ _ (by simp at hD; omega) hK rfl rfl)⟩
  simp [ax]
end
section
open Go.RowKit Go.Proofs.Tryz
def bd (w:World) (b:Nat) (l:List UInt8):Prop:=∀ j (hj:j<l.length),w.cell? ⟨b,j,none⟩=some (.int .u8 (l[j].toNat:Int))∧w.frozen? ⟨b,j,none⟩=false
theorem bd.set_ {w:World} {b:Nat} {l:List UInt8} (h:bd w b l) (i:Nat) (_hi:i<l.length) (x:UInt8) (v:Int) (hv:v=(x.toNat:Int)):bd (w.setCell ⟨b,i,none⟩ (.int .u8 v)) b (l.set i x):=by
 subst hv
 intro j hj
 have hj':j<l.length:=by simpa using hj
 refine ⟨?_,by rw [World.frozen?_setCell]; exact (h j hj').2⟩
 by_cases e:i=j
 ·subst e
  rw [World.cell?_setCell_same' _ _ _ (by rw [(h i hj').1]; rfl)]; simp
 rw [World.cell?_setCell_other (h:=by intro h; injection h with _ h2 _; exact e h2),(h j hj').1]; simp [e]
theorem bd.made (w:World) (s:ByteArray) (t:TypeId) (cap:Nat):bd (w.alloc (.cells (bytesRow s cap) t ((bytesRow s cap).size,(bytesRow s cap).size+1))) w.heap.size s.data.toList:=by
 intro j hj
 have hj':j<s.data.size:=by simpa using hj
 have hsz:s.data.size≤(bytesRow s cap).size:=by unfold bytesRow; simp
 refine ⟨?_,?_⟩
 ·rw [World.cell?_alloc_mark,bytesRow_at s cap j hj']
  simp
 rw [World.frozen?_alloc_mark]
 simp; omega
theorem pE (b j:Nat):(Addr.add ⟨b,0,none⟩ j)=⟨b,j,none⟩:=by
 unfold Addr.add; split
 ·subst_vars; rfl
 simp
theorem bd.string {P:Program} {w:World} {b:Nat} {l:List UInt8} (h:bd w b l) (src dst e:TypeId) (hs:P.underlying src=some (.slice e)) (he:P.underlying e=some (.int .u8)) (hd:P.underlying dst=some .string) (cap:Nat) :
  (convert src dst (.slice (some ⟨b,0,none⟩) l.length cap)).run P w=.ok (.string ⟨l.toArray⟩) w :=
 run_convert_bytes_back w src dst e ⟨b,0,none⟩ cap l hs he hd fun j hj=>by have:=(h j hj).1; have e:(Addr.add ⟨b,0,none⟩ j)=⟨b,j,none⟩:=pE b j; rw [e]; exact this
def fL (l:List UInt8) (k:Nat):List UInt8:=(l.take k).map upB++l.drop k
theorem dS (l:List UInt8) (k:Nat):(fL l k).length=l.length:=by simp [fL]; omega
theorem lU (l : List UInt8) (k : Nat) (h : k < l.length) : (fL l k)[k]'(by rw [dS]; exact h) = l[k]:=by
 unfold fL
 rw [List.getElem_append_right (by simp; omega)]
 simp [Nat.min_eq_left (Nat.le_of_lt h)]
theorem iG (l:List UInt8) (k:Nat) (h:k<l.length):fL l (k+1)=(fL l k).set k (upB l[k]):=by
 have hm:((l.take k).map upB).length=k:=by simp; omega
 unfold fL
 rw [List.set_append_right _ _ (by omega),hm,Nat.sub_self,List.take_succ_eq_append_getElem h,List.map_append,List.append_assoc,List.drop_eq_getElem_cons h]
 rfl
theorem kT (l:List UInt8) (k:Nat) (h:k<l.length) (e:upB l[k]=l[k]):fL l (k+1)=fL l k:=by
 rw [iG l k h,e]
 apply List.ext_getElem (by simp)
 intro i h1 h2
 rw [List.getElem_set]
 split
 ·rename_i hi
  subst hi
  rw [lU l k h]
 rfl
theorem ii (b:UInt8) (h:¬ (97≤b.toNat∧b.toNat≤122)):upB b=b:=by unfold upB; rw [if_neg h]
theorem pz (b:UInt8) (h:97≤b.toNat∧b.toNat≤122):(upB b).toNat=b.toNat - 32:=by
 unfold upB; rw [if_pos h,UInt8.toNat_ofNat']; omega
end
section
open Go.RowKit Go.Proofs.Tryz
theorem rG (b:UInt8) (o p:Nat) (w:World) (h1:w.cell? ⟨o,0,none⟩=some (.int .u8 97)) (h2:w.cell? ⟨p,0,none⟩=some (.int .i64 (-32))) :
  Calls prog 215 #[.int .u8 b.toNat,.pointer (some ⟨o,0,none⟩),.pointer (some ⟨p,0,none⟩)] w fun e w'=>e=.returned (.int .u8 (upB b).toNat)∧w'=w:=by
 have hb8:b.toNat<256:=b.toNat_lt
 rcases (show (97≤b.toNat∧b.toNat≤122)∨b.toNat<97∨122<b.toNat from by omega) with ⟨g1,g2⟩ | g1 | g1
 ·have hu:=keep (pz b ⟨g1,g2⟩)
  go_enter func215,ntmps215
  go_wp2_with fail
  go_ret
  exact ⟨by rw [hu.out]; simp; omega,rfl⟩
 ·have hu:=keep (ii b (by omega))
  go_enter func215,ntmps215
  go_wp2_with fail
  go_ret
  exact ⟨by rw [hu.out]; rfl,rfl⟩
 have hu:=keep (ii b (by omega))
 go_enter func215,ntmps215
 go_wp2_with fail
 go_ret
 exact ⟨by rw [hu.out]; rfl,rfl⟩
theorem nj (s:ByteArray) (o p:Nat) (w:World) (hs:s.size≤4611686018427387904) (h1:Boxed w o 5 (.int .u8 97)) (h2:Boxed w p 3 (.int .i64 (-32))) :
  Calls prog 173 #[.string s,.func (.func 215) #[] #[.pointer (some ⟨o,0,none⟩),.pointer (some ⟨p,0,none⟩)]] w fun e w'=>∃ cap,e=.returned (.slice (some ⟨w.heap.size,0,none⟩) s.size cap)∧bd w' w.heap.size (s.data.toList.map upB)∧Below w.heap.size w w':=by
 have hcv:=run_bytes_of_string (P:=prog) w 9 42 5 s underlying9 underlying42 underlying5
 have hm:=bd.made w.drew s 5 (grownCap w s.size 0 5)
 have hbl:Below w.heap.size w (w.drew.alloc (.cells (bytesRow s (grownCap w s.size 0 5)) 5 ((bytesRow s (grownCap w s.size 0 5)).size,(bytesRow s (grownCap w s.size 0 5)).size+1))):=(Below.refl _ _).drew.alloc (Nat.le_refl _) _
 generalize (w.drew.alloc (.cells (bytesRow s (grownCap w s.size 0 5)) 5 ((bytesRow s (grownCap w s.size 0 5)).size,(bytesRow s (grownCap w s.size 0 5)).size+1)))=W0 at hcv hm hbl
 generalize grownCap w s.size 0 5=cap at hcv
 have HM:Hid (bd W0 w.heap.size s.data.toList):=hm
 have HB:=Lib.hid hbl
 have HO:=Lib.hid h1
 have HP:=Lib.hid h2
 clear hm hbl h1 h2
 have hlen:s.data.toList.length=s.size:=by simp
 have HL:=Lib.hid hlen
 clear hlen
 go_enter func173,ntmps173
 go_wp2_with fail
 go_loopw [12] (fun i wr=>∃ k:Nat,k≤s.size∧i=.int .i64 k∧Hid (bd wr w.heap.size (fL s.data.toList k))∧Hid (Below w.heap.size w wr)) (fun i _=>s.size - (intOf i).toNat)
 case atStart=>exact ⟨0,Nat.zero_le _,rfl,by simpa [fL] using HM,HB⟩
 case round =>
  obtain ⟨k,hk,rfl,H1,H2⟩:=hrel
  clear HM HB hcv
  by_cases hlt:k<s.size
  ·have hlt':k<s.data.toList.length:=by rw [HL.out]; exact hlt
   have hcell:=(H1.out k (by rw [dS]; exact hlt')).1
   have hfroz:=(H1.out k (by rw [dS]; exact hlt')).2
   rw [lU _ _ hlt'] at hcell
   obtain ⟨b,hb⟩:∃ b,b=s.data.toList[k]:=⟨_,rfl⟩
   rw [← hb] at hcell
   have HBy:=Lib.hid hb
   have HLT:=Lib.hid hlt'
   clear hb
   go_wp2_with fail
   refine (rG b o p _ ((H2.out.cell (p:=⟨o,0,none⟩) HO.out.lt).trans HO.out.cell) ((H2.out.cell (p:=⟨p,0,none⟩) HP.out.lt).trans HP.out.cell)).mono ?_
   rintro e w5 ⟨rfl,rfl⟩
   go_wp2_with fail
   go_roundw
   case rel =>
    refine ⟨k+1,by omega,by go_num,?_,Lib.hid (H2.out.setCell (Nat.le_refl _) _)⟩
    show bd _ _ _
    rw [iG _ _ HLT.out,← HBy.out]
    exact H1.out.set_ k (by rw [dS]; exact HLT.out) _ _ rfl
   case measure=>simp [intOf]; omega
  have hke:fL s.data.toList k=s.data.toList.map upB:=by
   have:k=s.data.toList.length:=by rw [HL.out]; omega
   unfold fL
   rw [List.take_of_length_le (by omega),List.drop_eq_nil_of_le (by omega),List.append_nil]
  rw [hke] at H1
  clear hke
  go_wp2_with fail
  go_ret
  exact ⟨_,rfl,H1.out,H2.out⟩
theorem jA (s:ByteArray) (w:World) (hs:s.size≤4611686018427387904) :
  Calls prog 199 #[.string s,.int .u8 97,.int .i64 (-32)] w fun e w'=>e=.returned (.string ⟨(s.data.toList.map upB).toArray⟩)∧Below w.heap.size w w':=by
 have b1:=Boxed.new w 5 (.int .u8 97)
 have b2:=Boxed.new (w.alloc (.cells #[.int .u8 97] 5)) 3 (.int .i64 (-32))
 have b1':=b1.alloc (.cells #[.int .i64 (-32)] 3)
 have hB:Below w.heap.size w ((w.alloc (.cells #[.int .u8 97] 5)).alloc (.cells #[.int .i64 (-32)] 3)):=((Below.refl _ w).alloc (Nat.le_refl _) _).alloc (by simp) _
 rw [World.size_alloc] at b2
 have HB:=Lib.hid hB
 have HB1:=Lib.hid b1'
 have HB2:=Lib.hid b2
 clear b1 b2 b1' hB
 go_enter func199,ntmps199
 go_wp2_with fail
 generalize (w.alloc (.cells #[.int .u8 97] 5)).alloc (.cells #[.int .i64 (-32)] 3)=W0 at HB HB1 HB2 ⊢
 refine (nj s _ _ _ hs HB1.out HB2.out).mono ?_
 rintro e w1 ⟨cap,rfl,hb8,hb⟩
 have HB3:=Lib.hid (al HB.out hb)
 have hcv2:=hb8.string (P:=prog) 42 9 5 underlying42 underlying5 underlying9 cap
 rw [List.length_map,show s.data.toList.length=s.size from by simp] at hcv2
 clear hb8 hb HB HB1 HB2
 go_wp2_with fail
 go_ret
 exact ⟨rfl,HB3.out⟩
theorem dY (s:ByteArray) (w:World) (hs:s.size≤4611686018427387904) :
  Calls prog 164 #[.string s] w fun e w'=>e=.returned (.string ⟨(s.data.toList.map upB).toArray⟩)∧Below w.heap.size w w':=by
 go_enter func164,ntmps164
 go_wp2_with fail
 refine (jA s _ hs).mono ?_
 rintro e w1 ⟨rfl,hb⟩
 have HB:=Lib.hid hb
 clear hb
 go_wp2_with fail
 go_ret
 exact ⟨rfl,HB.out⟩
end
section
open Go.RowKit Go.Proofs.Tryz
theorem eI (n:Nat) (neg:Bool) (w:World) (hn:n≤9223372036854775807) :
  Calls prog 180 #[.int .u64 0,.int .u64 (n:Int),.bool neg] w fun e w'=>e=.returned (.tuple #[.int .i64 (if neg then -(n:Int) else n),.bool true])∧w'=w:=by
 have hn2:(n:Int)≤9223372036854775807:=by omega
 have hn3:0≤(n:Int):=by omega
 cases neg
 ·go_enter func180,ntmps180
  go_wp2_with fail
  exact bodyPost_ret (v:=.tuple #[.int .i64 (n:Int),.bool true]) (by simp [results,results180,go_sem]) rfl ⟨rfl,rfl⟩
 go_enter func180,ntmps180
 go_wp2_with fail
 exact bodyPost_ret (v:=.tuple #[.int .i64 (-(n:Int)),.bool true]) (by simp [results,results180,go_sem]) rfl ⟨rfl,rfl⟩
theorem dJ (s:ByteArray) (w:World) (hs:s.size≤4611686018427387904) :
  Calls prog 179 #[.string s] w fun e w'=>e=.returned (.int .i64 ((s.data.toList.takeWhile ah).length:Int))∧w'=w:=by
 go_enter func179,ntmps179
 go_wp2_with fail
 go_loopw [6] (fun iv wr=>∃ k:Nat,k≤s.size∧iv=.int .i64 (k:Int)∧ao ((s.data.toList.takeWhile ah).length=k+((s.data.toList.drop k).takeWhile ah).length)∧wr=w) (fun iv _=>s.size - (intOf iv).toNat)
 case atStart=>exact ⟨0,Nat.zero_le _,rfl,keep (by simp),rfl⟩
 case round =>
  obtain ⟨k,hk,rfl,HX,rfl⟩:=hrel
  have hsl:s.data.toList.length=s.size:=by rw [Array.length_toList]; rfl
  by_cases hlt:(k:Int)<s.size
  ·have hqs:k<s.size:=by omega
   have hdrop : s.data.toList.drop k = s[k]'hqs :: s.data.toList.drop (k + 1):=List.drop_eq_getElem_cons (by omega)
   have hx:=HX.out
   rw [hdrop,List.takeWhile_cons] at hx
   have hd:=dw (s[k]'hqs)
   have hb8 : (s[k]'hqs).toNat < 256:=(s[k]'hqs).toNat_lt
   cases hv : ah (s[k]'hqs)
   ·rw [hv] at hd hx
    have HE:=keep hx
    have hc : ((s[k]'hqs).toNat : Int) < 48 ∨ 57 < ((s[k]'hqs).toNat : Int):=by
     simp at hd; omega
    clear hx hd hv hdrop hsl
    rcases hc with hc | hc
    ·go_wp2_with fail
     go_ret
     exact ⟨by rw [HE.out]; rfl,rfl⟩
    have hc2 : ¬ ((s[k]'hqs).toNat : Int) < 48:=by omega
    go_wp2_with fail
    go_ret
    exact ⟨by rw [HE.out]; rfl,rfl⟩
   rw [hv] at hd hx
   have HE:=keep hx
   have hc : 48 ≤ ((s[k]'hqs).toNat : Int) ∧ ((s[k]'hqs).toNat : Int) ≤ 57:=by
    simp at hd; omega
   obtain ⟨hc1,hc2⟩:=hc
   clear hx hd hv hdrop hsl
   go_wp2_with fail
   go_roundw
   case rel=>exact ⟨k+1,by omega,by go_num,keep (by rw [HE.out]; simp; omega),by first | trivial | rfl⟩
   case measure=>simp [intOf]; omega
  have hke:k=s.size:=by omega
  have HE:=keep (show (s.data.toList.takeWhile ah).length=s.size by rw [HX.out,List.drop_of_length_le (by omega),hke]; rfl)
  clear hsl
  go_wp2_with fail
  go_ret
  exact ⟨by rw [HE.out]; rfl,rfl⟩
def eh (s:ByteArray) (i:Nat):UInt8:=s.data.toList[i]?.getD 0
theorem d3 (s:ByteArray) (rb i:Nat) (w:World) (_hs:s.size≤4611686018427387904) (_hi:i≤4611686018427387904) (hr:w.cell? ⟨rb,0,none⟩=some (.string s)) :
  Calls prog 160 #[.pointer (some ⟨rb,0,none⟩),.int .i64 (i:Int)] w fun e w'=>e=.returned (.int .u8 (eh s i).toNat)∧w'=w:=by
 have hsl:s.data.toList.length=s.size:=by rw [Array.length_toList]; rfl
 by_cases hlt:(i:Int)<s.size
 ·have hqs:i<s.size:=by omega
  have hb : eh s i = s[i]'hqs:=by
   unfold eh
   rw [List.getElem?_eq_getElem (by omega)]
   rfl
  have HB:=keep hb
  clear hb hsl
  go_enter func160,ntmps160
  go_wp2_with fail
  go_ret
  exact ⟨by rw [HB.out]; rfl,rfl⟩
 have hb:eh s i=0:=by
  unfold eh
  rw [List.getElem?_eq_none (by omega)]
  rfl
 have HB:=keep hb
 clear hb hsl
 go_enter func160,ntmps160
 go_wp2_with fail
 go_ret
 exact ⟨by rw [HB.out]; rfl,rfl⟩
theorem rY (p:UInt8→Bool) (l:List UInt8):l.take (l.takeWhile p).length=l.takeWhile p:=by
 have h:=List.takeWhile_append_dropWhile (p:=p) (l:=l)
 conv=>lhs; arg 2; rw [← h]
 rw [List.take_left]
theorem hH (s:ByteArray) (rb i:Nat) (w:World) (hs:s.size≤4611686018427387904) (hi:i≤s.size) (hr:w.cell? ⟨rb,0,none⟩=some (.string s)) :
  Calls prog 159 #[.pointer (some ⟨rb,0,none⟩),.int .i64 (i:Int)] w fun e w'=>e=.returned (.string ⟨((bC s i).map upB).toArray⟩)∧Below w.heap.size w w':=by
 have hsl:s.data.toList.length=s.size:=by rw [Array.length_toList]; rfl
 obtain ⟨n,hn⟩:=ex ((bC s i).length)
 have hle:i+n≤s.size:=by
  have h:=(List.takeWhile_prefix (l:=s.data.toList.drop i) au).length_le
  rw [List.length_drop] at h
  have h2:(bC s i).length=((s.data.toList.drop i).takeWhile au).length:=rfl
  omega
 have hx:(s.extract i (i+n)).data.toList=bC s i:=by
  rw [Lib.extract_data,Nat.add_sub_cancel_left,← hn]
  exact rY _ _
 have HX:=keep hx
 have HN:=keep hn
 have ht:((i:Int)+(n:Int)).toNat=i+n:=by omega
 have h1:(i:Int)+n≤s.size:=by omega
 have h2:(i:Int)≤(i:Int)+n:=by omega
 have hes:(s.extract i (i+n)).size≤4611686018427387904:=by simp; omega
 clear hsl hx hn
 go_enter func159,ntmps159
 go_wp2_with fail
 refine (nP s i _ hi hs).mono ?_
 rintro e w1 ⟨rfl,hb⟩
 have hr1:=bn hb hr
 have HB:=Lib.hid hb
 clear hb hr
 rw [HN.out]
 go_wp2_with fail
 refine (dY _ _ hes).mono ?_
 rintro e w2 ⟨rfl,hb2⟩
 have HB2:=Lib.hid (al HB.out hb2)
 clear hb2 hr1
 rw [HX.out]
 go_wp2_with fail
 go_ret
 exact ⟨rfl,HB2.out⟩
end
