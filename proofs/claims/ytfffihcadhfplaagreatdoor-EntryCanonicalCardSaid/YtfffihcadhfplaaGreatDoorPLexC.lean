/- Contracts of the lexer's tests of bytes. The iterator piece of the lexer, and length: how many bytes from a place on pass a test. Plain helpers: a row of bytes of the call's own (as in XAddrC, without the law's capitals). The contract of glyph.Upper. Contracts of dec.digits, dec.signed and of the lexer's next and plain. -/
import Derived.Test.YtfffihcadhfplaaGreatDoorPLexP
import Derived.Test.YtfffihcadhfplaaGreatDoorPIterV
import Derived.IntWalk
import Derived.Test.YtfffihcadhfplaaGreatDoorPAddrP
import Derived.Laws.IdiomStrings
import Derived.RangeFuncBox
import Derived.RangeFuncNested
import Derived.Lib.Strings
namespace Go.Proofs.YtfffihcadhfplaaGreatDoor
set_option maxRecDepth 100000
set_option maxHeartbeats 4000000
section
open Go.RowKit
theorem dig_int (b:UInt8):isDig b=(decide (48≤(b.toNat:Int)) && decide ((b.toNat:Int)≤57)):=by
 unfold isDig
 rw [Bool.eq_iff_iff]
 simp only [Bool.and_eq_true,decide_eq_true_eq]
 omega
theorem let_iff (b:UInt8):isLet b=true↔(65≤b.toNat∧b.toNat≤90)∨(97≤b.toNat∧b.toNat≤122):=by
 unfold isLet letV
 split
 ·simp; omega
 ·split
  ·simp; omega
  ·simp; omega
theorem lex_digit (b:UInt8) (w:World) :
  Calls Tryz.prog 102 #[.int .u8 b.toNat] w fun e w'=>e=.returned (.bool (isDig b))∧w'=w:=by
 rw [dig_int]
 generalize (b.toNat:Int)=x
 by_cases h1:48≤x
 ·go_enter Tryz.func102,Tryz.ntmps102
  go_wp2_with fail
  go_ret
  exact ⟨by simp <;> omega,rfl⟩
 ·go_enter Tryz.func102,Tryz.ntmps102
  go_wp2_with fail
  go_ret
  exact ⟨by simp <;> omega,rfl⟩
theorem lex_letter (b:UInt8) (w:World) :
  Calls Tryz.prog 104 #[.int .u8 b.toNat] w fun e w'=>e=.returned (.bool (isLet b))∧w'=w:=by
 have hb:=let_iff b
 generalize isLet b=v at hb
 obtain ⟨x,hx⟩:∃ x:Int,(b.toNat:Int)=x:=⟨_,rfl⟩
 have hv:v=decide ((65≤x∧x≤90)∨(97≤x∧x≤122)):=by
  rw [Bool.eq_iff_iff,hb,decide_eq_true_eq]
  omega
 rw [hx,hv]
 clear hb hx hv
 by_cases h1:65≤x <;> by_cases h2:x≤90 <;> by_cases h3:97≤x
 all_goals
  go_enter Tryz.func104,Tryz.ntmps104
  go_wp2_with fail
  go_ret
  exact ⟨by simp <;> omega,rfl⟩
theorem lex_wrd (b:UInt8) (w:World) :
  Calls Tryz.prog 131 #[.int .u8 b.toNat] w fun e w'=>e=.returned (.bool (isWrd b))∧w'=w:=by
 go_enter Tryz.func131,Tryz.ntmps131
 go_wp2_with fail
 refine (lex_letter _ _).mono ?_
 rintro e w1 ⟨rfl,rfl⟩
 cases hl:isLet b
 ·go_wp2_with fail
  refine (lex_digit _ _).mono ?_
  rintro e w2 ⟨rfl,rfl⟩
  have hd:isWrd b=isDig b:=by unfold isWrd; rw [hl]; rfl
  go_wp2_with fail
  go_ret
  exact ⟨by rw [hd]; rfl,rfl⟩
 ·have hd:isWrd b=true:=by unfold isWrd; rw [hl]; rfl
  go_wp2_with fail
  go_ret
  exact ⟨by rw [hd]; rfl,rfl⟩
end
section
open Go.RowKit
attribute [local go_sem] Oper.semAt_some
def bytesV (l:List UInt8):List Value:=l.map fun b=>.int .u8 b.toNat
theorem lex_piece (s:ByteArray) (i:Int) (g:Nat) (w:World) :
  Calls Tryz.prog 130 #[.string s,.int .i64 i,.func (.func g) #[] #[]] w fun e w'=>e=.returned (.func (.func 146) #[] #[.pointer (some ⟨w.heap.size+1,0,none⟩),.pointer (some ⟨w.heap.size,0,none⟩),.pointer (some ⟨w.heap.size+2,0,none⟩)]) ∧
   w'=((w.alloc (.cells #[.string s] 9)).alloc (.cells #[.int .i64 i] 3)).alloc (.cells #[.func (.func g) #[] #[]] 139):=by
 go_enter Tryz.func130,Tryz.ntmps130
 go_wp2
 go_ret
 exact ⟨rfl,rfl⟩
def digRun (s:ByteArray) (i:Nat):List UInt8:=(s.data.toList.drop i).takeWhile isDig
theorem piece_dig (m:Nat) (hm:2≤m) (s:ByteArray) (i:Nat) (hi:i≤s.size) (hs:s.size≤4611686018427387904) (o:Nat) (w:World) (h1:Boxed w o 9 (.string s)) (h2:Boxed w (o+1) 3 (.int .i64 (i:Int))) (h3:Boxed w (o+2) 139 (.func (.func 102) #[] #[])) :
  HandsV Fence.wide m Tryz.prog 146 #[.pointer (some ⟨o+1,0,none⟩),.pointer (some ⟨o,0,none⟩),.pointer (some ⟨o+2,0,none⟩)] [o,o+1,o+2] (fun _=>True) (bytesV (digRun s i)) w:=by
 intro l J W _ hdrew hY ho h0
 have hB1:Boxed W o 9 (.string s):=(ho o (by simp)).trans h1
 have hB2:Boxed W (o+1) 3 (.int .i64 (i:Int)):=(ho (o+1) (by simp)).trans h2
 have hB3:Boxed W (o+2) 139 (.func (.func 102) #[] #[]):=(ho (o+2) (by simp)).trans h3
 have HD:=Lib.hid hdrew
 have HY:=Lib.hid hY
 have h1':1≤m - 1:=by omega
 have hc:=hB2.cell
 refine callsIn_of_wp Tryz.func146 rfl trivial ?_ rfl
 simp only [Tryz.ntmps146,List.size_toArray,List.length_cons,List.length_nil,Nat.reduceAdd,Nat.reduceSub,Array.replicate_succ,Array.replicate_zero,List.push_toArray,List.append_toArray,List.nil_append,List.cons_append]
 have HB1:=Lib.hid hB1
 have HB2:=Lib.hid hB2
 have HB3:=Lib.hid hB3
 clear hdrew hY ho h1 h2 h3 hB1 hB2 hB3
 gi_wp2
 clear hc
 gi_loopw [5] (fun iv wr=>∃ (pre:List Value) (k:Nat),i+k≤s.size∧iv=.int .i64 ((i+k:Nat):Int)∧Keep (bytesV (digRun s i)=pre++bytesV (digRun s (i+k)))∧Hid (Boxed wr o 9 (.string s))∧Hid (Boxed wr (o+1) 3 (.int .i64 (i:Int)))∧Hid (Boxed wr (o+2) 139 (.func (.func 102) #[] #[]))∧Hid (J pre wr)) (fun iv _=>s.size - (intOf iv).toNat)
 case atStart=>exact ⟨[],0,hi,rfl,keep rfl,HB1,HB2,HB3,h0⟩
 case round =>
  clear HB1 HB2 HB3
  obtain ⟨pre,k,hk,rfl,HX,HB1,HB2,HB3,HJ⟩:=hrel
  obtain ⟨q,hq⟩:∃ q,i+k=q:=⟨_,rfl⟩
  rw [hq] at hk HX ⊢
  by_cases hlt:(q:Int)<s.size
  ·have hsl:s.data.toList.length=s.size:=by rw [Array.length_toList]; rfl
   have hqs:q<s.size:=by omega
   have hdrop : s.data.toList.drop q = s[q]'hqs :: s.data.toList.drop (q + 1):=List.drop_eq_getElem_cons (by omega)
   have hrun : digRun s q = if isDig (s[q]'hqs) = true then s[q]'hqs :: digRun s (q + 1) else []:=by
    unfold digRun
    rw [hdrop,List.takeWhile_cons]
   have HR:=keep hrun
   clear hsl hdrop hrun
   gi_wp2_with fail
   refine wpIn_wide.2 ?_
   refine wp_region_held_drew (S:=fun W=>(Boxed W o 9 (.string s)∧Boxed W (o+1) 3 (.int .i64 (i:Int))∧Boxed W (o+2) 139 (.func (.func 102) #[] #[]))∧J pre W) (by kernel_rfl) ⟨⟨HB1.out,HB2.out,HB3.out⟩,HD.out _ _ HJ.out⟩ (fun hHeld => ?_)
   refine wtg (i:=0) (v:=?a1) rfl ?b1 (by assumption) ?c1
   case b1=>(intro w hSw; have s1:=hSw.1.1.cell; have s2:=hSw.1.2.1.cell; have s3:=hSw.1.2.2.cell; go_simp; try with_reducible rfl)
   try simp only [Act.put,wp1,wp2,wp3,wp4,wp6]
   refine wtg (i:=1) (v:=?a3) rfl ?b3 (by assumption) ?c3
   case b3=>(intro w hSw; have s1:=hSw.1.1.cell; have s2:=hSw.1.2.1.cell; have s3:=hSw.1.2.2.cell; go_simp; try with_reducible rfl)
   try simp only [Act.put,wp1,wp2,wp3,wp4,wp5,wp6]
   refine wtg (i:=2) (v:=?a5) rfl ?b5 (by assumption) ?c5
   case b5=>(intro w hSw; have s1:=hSw.1.1.cell; have s2:=hSw.1.2.1.cell; have s3:=hSw.1.2.2.cell; go_simp; try with_reducible rfl)
   try simp only [Act.put,wp1,wp2,wp3,wp4,wp5,wp6]
   refine wtg (i:=3) (v:=?a7) rfl ?b7 (by assumption) ?c7
   case b7=>(intro w hSw; have s1:=hSw.1.1.cell; have s2:=hSw.1.2.1.cell; have s3:=hSw.1.2.2.cell; go_simp; try with_reducible rfl)
   try simp only [Act.put,wp1,wp2,wp3,wp4,wp5,wp6]
   refine wtg (i:=4) (v:=?a9) rfl ?b9 (by assumption) ?c9
   case b9=>(intro w hSw; have s1:=hSw.1.1.cell; have s2:=hSw.1.2.1.cell; have s3:=hSw.1.2.2.cell; go_simp; try with_reducible rfl)
   try simp only [Act.put,wp1,wp2,wp3,wp4,wp5,wp6]
   refine wtg (i:=5) (v:=?a11) rfl ?b11 (by assumption) ?c11
   case b11=>(intro w hSw; have s1:=hSw.1.1.cell; have s2:=hSw.1.2.1.cell; have s3:=hSw.1.2.2.cell; go_simp; try with_reducible rfl)
   try simp only [Act.put,wp1,wp2,wp3,wp4,wp5,wp6]
   refine wtg (i:=6) (v:=?a13) rfl ?b13 (by assumption) ?c13
   case b13=>(intro w hSw; have s1:=hSw.1.1.cell; have s2:=hSw.1.2.1.cell; have s3:=hSw.1.2.2.cell; go_simp; try with_reducible rfl)
   try simp only [Act.put,wp1,wp2,wp3,wp4,wp5,wp6]
   refine wtg (i:=7) (v:=?a15) rfl ?b15 (by assumption) ?c15
   case b15=>(intro w hSw; have s1:=hSw.1.1.cell; have s2:=hSw.1.2.1.cell; have s3:=hSw.1.2.2.cell; go_simp; try with_reducible rfl)
   try simp only [Act.put,wp1,wp2,wp3,wp4,wp5,wp6]
   refine wtg (i:=8) (v:=?a17) rfl ?b17 (by assumption) ?c17
   case b17=>(intro w hSw; have s1:=hSw.1.1.cell; have s2:=hSw.1.2.1.cell; have s3:=hSw.1.2.2.cell; go_simp; try with_reducible rfl)
   try simp only [Act.put,wp1,wp2,wp3,wp4,wp5,wp6]
   refine wal (i:=9) rfl (fun K hK => ?_)
   go_simp
   refine (lex_digit _ _).mono ?_
   rintro e w6 ⟨rfl,rfl⟩
   go_wp2_with fail
   refine hK.out _ _ hHeld (fun hHeld => ?_)
   clear hK K
   try simp only [Act.put,wp1,wp2,wp3,wp4,wp5,wp6]
   refine wtg (i:=10) (v:=?a20) rfl ?b20 (by assumption) ?c20
   case b20=>(intro w hSw; have s1:=hSw.1.1.cell; have s2:=hSw.1.2.1.cell; have s3:=hSw.1.2.2.cell; go_simp; try with_reducible rfl)
   try simp only [Act.put,wp1,wp2,wp3,wp4,wp5,wp6]
   refine wpAnyH_done (by kernel_rfl) ?_ _
   clear hHeld
   generalize hv : isDig (s[q]'hqs) = v
   have HV:=keep hv
   clear hv
   cases v
   ·gi_wp2_with fail
    go_end0
    refine ⟨⟨_,rfl⟩,?_⟩
    have hx:=HX.out
    rw [HR.out,HV.out,if_neg (by decide),show bytesV []=[] from rfl,List.append_nil] at hx
    rw [hx]
    exact HD.out _ _ HJ.out
   ·have hx:=HX.out
    rw [HR.out,HV.out,if_pos rfl,show bytesV (s[q]'hqs :: digRun s (q + 1)) = [.int .u8 (s[q]'hqs).toNat] ++ bytesV (digRun s (q + 1)) from rfl,← List.append_assoc] at hx
    obtain ⟨fn,tmps,assign,body,hy,hR⟩:=HY.out pre (.int .u8 (s[q]'hqs).toNat) wr.drew (HD.out _ _ HJ.out) ⟨_,hx.symm⟩
    have HX2:=keep hx
    clear hx
    have e1:wr.drew.cell? ⟨o,0,none⟩=some (.string s):=HB1.out.cell
    gi_wp2_with fail
    refine ⟨fun _=>by omega,hR.mono ?_⟩
    rintro e W3 ⟨rfl,hJ3,ho3⟩
    clear hR hy e1
    gi_wp2_with fail
    go_roundw
    case rel => exact ⟨pre ++ [.int .u8 (s[q]'hqs).toNat],k + 1,by omega,by rw [← hq]; go_num,keep (by rw [show i + (k + 1) = q + 1 from by omega]; exact HX2.out),Lib.hid ((ho3 o (by simp)).trans HB1.out),Lib.hid ((ho3 (o + 1) (by simp)).trans HB2.out),Lib.hid ((ho3 (o + 2) (by simp)).trans HB3.out),Lib.hid hJ3⟩
    case measure=>simp [intOf]; omega
  ·obtain rfl:q=s.size:=by omega
   gi_wp2_with fail
   refine wpIn_wide.2 ?_
   refine wp_region_held_drew (S:=fun W=>(Boxed W o 9 (.string s)∧Boxed W (o+1) 3 (.int .i64 (i:Int))∧Boxed W (o+2) 139 (.func (.func 102) #[] #[]))∧J pre W) (by kernel_rfl) ⟨⟨HB1.out,HB2.out,HB3.out⟩,HD.out _ _ HJ.out⟩ (fun hHeld => ?_)
   refine wtg (i:=0) (v:=?a22) rfl ?b22 (by assumption) ?c22
   case b22=>(intro w hSw; have s1:=hSw.1.1.cell; have s2:=hSw.1.2.1.cell; have s3:=hSw.1.2.2.cell; go_simp; try with_reducible rfl)
   try simp only [Act.put,wp1,wp2,wp3,wp4,wp6]
   refine wtg (i:=1) (v:=?a24) rfl ?b24 (by assumption) ?c24
   case b24=>(intro w hSw; have s1:=hSw.1.1.cell; have s2:=hSw.1.2.1.cell; have s3:=hSw.1.2.2.cell; go_simp; try with_reducible rfl)
   try simp only [Act.put,wp1,wp2,wp3,wp4,wp5,wp6]
   refine wtg (i:=2) (v:=?a26) rfl ?b26 (by assumption) ?c26
   case b26=>(intro w hSw; have s1:=hSw.1.1.cell; have s2:=hSw.1.2.1.cell; have s3:=hSw.1.2.2.cell; go_simp; try with_reducible rfl)
   try simp only [Act.put,wp1,wp2,wp3,wp4,wp5,wp6]
   refine wtg (i:=3) (v:=?a28) rfl ?b28 (by assumption) ?c28
   case b28=>(intro w hSw; have s1:=hSw.1.1.cell; have s2:=hSw.1.2.1.cell; have s3:=hSw.1.2.2.cell; go_simp; try with_reducible rfl)
   try simp only [Act.put,wp1,wp2,wp3,wp4,wp5,wp6]
   refine wtg (i:=4) (v:=?a30) rfl ?b30 (by assumption) ?c30
   case b30=>(intro w hSw; have s1:=hSw.1.1.cell; have s2:=hSw.1.2.1.cell; have s3:=hSw.1.2.2.cell; go_simp; try with_reducible rfl)
   try simp only [Act.put,wp1,wp2,wp3,wp4,wp5,wp6]
   refine wsk (i:=5) rfl (by assumption) ?_
   refine wsk (i:=6) rfl (by assumption) ?_
   refine wsk (i:=7) rfl (by assumption) ?_
   refine wsk (i:=8) rfl (by assumption) ?_
   refine wsk (i:=9) rfl (by assumption) ?_
   refine wtg (i:=10) (v:=?a32) rfl ?b32 (by assumption) ?c32
   case b32=>(intro w hSw; have s1:=hSw.1.1.cell; have s2:=hSw.1.2.1.cell; have s3:=hSw.1.2.2.cell; go_simp; try with_reducible rfl)
   try simp only [Act.put,wp1,wp2,wp3,wp4,wp5,wp6]
   refine wpAnyH_done (by kernel_rfl) ?_ _
   clear hHeld
   gi_wp2_with fail
   go_end0
   refine ⟨⟨_,rfl⟩,?_⟩
   have hx:=HX.out
   rw [show digRun s s.size=[] from by unfold digRun; rw [List.drop_of_length_le (by rw [Array.length_toList]; exact Nat.le_refl _)]; rfl,show bytesV []=[] from rfl,List.append_nil] at hx
   rw [hx]
   exact HD.out _ _ HJ.out
def Counts (w:World) (pre:List Value) (W:World):Prop:=Boxed W w.heap.size 3 (.int .i64 (pre.length:Int))∧Below w.heap.size w W
theorem length_dig (s:ByteArray) (i:Nat) (w:World) (hi:i≤s.size) (hs:s.size≤4611686018427387904) :
  Calls Tryz.prog 101 #[.string s,.int .i64 (i:Int),.func (.func 102) #[] #[]] w fun e w'=>e=.returned (.int .i64 ((digRun s i).length:Int))∧Below w.heap.size w w':=by
 refine (callsIn_wide (n:=4)).1 ?_
 refine callsIn_of_wp_marks Tryz.func101 rfl trivial ?_ rfl
 simp only [Tryz.ntmps101,List.size_toArray,List.length_cons,List.length_nil,Nat.reduceAdd,Nat.reduceSub,Array.replicate_succ,Array.replicate_zero,List.push_toArray,List.append_toArray,List.nil_append,List.cons_append]
 gi_wp2_with fail
 refine ⟨trivial,((callsIn_wide (n:=3)).2 (lex_piece s (i:Int) 102 _)).mono ?_⟩
 rintro e w' ⟨rfl,rfl⟩
 gi_wp2
 have b0:=Boxed.new w 3 (.int .i64 0)
 have b1:=Boxed.new (w.alloc (.cells #[.int .i64 0] 3)) 9 (.string s)
 have b2:=Boxed.new ((w.alloc (.cells #[.int .i64 0] 3)).alloc (.cells #[.string s] 9)) 3 (.int .i64 (i:Int))
 have b3:=Boxed.new (((w.alloc (.cells #[.int .i64 0] 3)).alloc (.cells #[.string s] 9)).alloc (.cells #[.int .i64 (i:Int)] 3)) 139 (.func (.func 102) #[] #[])
 simp only [World.size_alloc] at b1 b2 b3
 have hB0:Below w.heap.size w ((((w.alloc (.cells #[.int .i64 0] 3)).alloc (.cells #[.string s] 9)).alloc (.cells #[.int .i64 (i:Int)] 3)).alloc (.cells #[.func (.func 102) #[] #[]] 139)):=((((Below.refl _ w).alloc (Nat.le_refl _) _).alloc (by simp) _).alloc (by simp; omega) _).alloc (by simp; omega) _
 have hrl:(digRun s i).length≤s.size:=by
  unfold digRun
  refine Nat.le_trans (List.takeWhile_prefix _).length_le ?_
  rw [List.length_drop,Array.length_toList]
  exact Nat.sub_le _ _
 have HRL:=keep hrl
 clear hrl
 refine range_handsV rfl (by decide) (gf:=146) (lb:=#[.pointer (some ⟨w.heap.size+1+1,0,none⟩),.pointer (some ⟨w.heap.size+1,0,none⟩),.pointer (some ⟨w.heap.size+1+2,0,none⟩)]) rfl trivial (enters_of Tryz.func146 (by kernel_rfl) rfl)
  (bytesV (digRun s i)) rfl [w.heap.size+1,w.heap.size+1+1,w.heap.size+1+2] (by simp) (piece_dig 3 (by decide) s i hi hs (w.heap.size+1) _ ((b1.alloc _).alloc _) (b2.alloc _) b3)
  (Counts w) ?put (fun _ _ ob h=>⟨h.1.alloc ob,h.2.alloc h.2.size ob⟩) (fun _ _ h=>⟨h.1,h.2.drew⟩) (fun _ _ _=>trivial)
  ⟨((b0.alloc _).alloc _).alloc _,hB0⟩
  (fun x=>{ tmps:=#[.string s,.int .i64 (i:Int),.func (.func 102) #[] #[],undef,undef,undef,.int .i64 0,.pointer (some ⟨w.heap.size,0,none⟩),.string s,.int .i64 (i:Int),.func (.func 102) #[] #[],.func (.func 146) #[] #[.pointer (some ⟨w.heap.size+1+1,0,none⟩),.pointer (some ⟨w.heap.size+1,0,none⟩),.pointer (some ⟨w.heap.size+1+2,0,none⟩)],x,undef,undef,undef],defers:=[] }) ?assign ?body ?done
 case put =>
  intro pre W l ob ob' h hl hlo hc
  simp at hl
  exact ⟨(World.putObj_heap_other (by omega)).trans h.1,h.2.os,h.2.tape,h.2.output,by simpa using h.2.size,fun j hj=>(World.putObj_heap_other (by omega)).trans (h.2.block j hj)⟩
 case assign =>
  intro l x W K hK
  gi_wp2
  simpa using hK
 case body =>
  rintro l pre x W hl ⟨hv,hB⟩ ho hpx
  have hc:=hv.cell
  have hf:=hv.frozen
  have hpl:pre.length<4611686018427387904:=by
   have:=hpx.length_le
   have h2:=HRL.out
   simp [bytesV] at this
   omega
  clear b0 b1 b2 b3
  gi_wp2_with fail
  refine ⟨KeepsFrom.of_grownBy (grownBy_setCell' W w.heap.size _) (fun j hj=>by obtain rfl:=Option.some.inj hj; simp; omega),⟨?_,hB.setCell (by simp) _⟩,fun o ho'=>Below.heap_setCell W ⟨w.heap.size,0,none⟩ _ _ (by simp at ho'; rcases ho' with rfl | rfl | rfl <;> simp <;> omega)⟩
  rw [List.length_append]
  exact hv.set _
 case done =>
  rintro D W hD ⟨hv,hB⟩ hK
  have hc:=hv.cell
  gi_wp2
  refine ⟨by simp,.inl ⟨_,_,rfl,run_takeDeferred hK,?_⟩⟩
  refine ⟨_,results_tmp rfl _ _ _,?_,hB.trans (belowK_b (w:=w) (Nat.le_refl _) W D _ _ (by simp at hD; omega) hK rfl rfl)⟩
  simp [bytesV]
def wrdRun (s:ByteArray) (i:Nat):List UInt8:=(s.data.toList.drop i).takeWhile isWrd
theorem piece_wrd (m:Nat) (hm:2≤m) (s:ByteArray) (i:Nat) (hi:i≤s.size) (hs:s.size≤4611686018427387904) (o:Nat) (w:World) (h1:Boxed w o 9 (.string s)) (h2:Boxed w (o+1) 3 (.int .i64 (i:Int))) (h3:Boxed w (o+2) 139 (.func (.func 131) #[] #[])) :
  HandsV Fence.wide m Tryz.prog 146 #[.pointer (some ⟨o+1,0,none⟩),.pointer (some ⟨o,0,none⟩),.pointer (some ⟨o+2,0,none⟩)] [o,o+1,o+2] (fun _=>True) (bytesV (wrdRun s i)) w:=by
 intro l J W _ hdrew hY ho h0
 have hB1:Boxed W o 9 (.string s):=(ho o (by simp)).trans h1
 have hB2:Boxed W (o+1) 3 (.int .i64 (i:Int)):=(ho (o+1) (by simp)).trans h2
 have hB3:Boxed W (o+2) 139 (.func (.func 131) #[] #[]):=(ho (o+2) (by simp)).trans h3
 have HD:=Lib.hid hdrew
 have HY:=Lib.hid hY
 have h1':1≤m - 1:=by omega
 have hc:=hB2.cell
 refine callsIn_of_wp Tryz.func146 rfl trivial ?_ rfl
 simp only [Tryz.ntmps146,List.size_toArray,List.length_cons,List.length_nil,Nat.reduceAdd,Nat.reduceSub,Array.replicate_succ,Array.replicate_zero,List.push_toArray,List.append_toArray,List.nil_append,List.cons_append]
 have HB1:=Lib.hid hB1
 have HB2:=Lib.hid hB2
 have HB3:=Lib.hid hB3
 clear hdrew hY ho h1 h2 h3 hB1 hB2 hB3
 gi_wp2
 clear hc
 gi_loopw [5] (fun iv wr=>∃ (pre:List Value) (k:Nat),i+k≤s.size∧iv=.int .i64 ((i+k:Nat):Int)∧Keep (bytesV (wrdRun s i)=pre++bytesV (wrdRun s (i+k)))∧Hid (Boxed wr o 9 (.string s))∧Hid (Boxed wr (o+1) 3 (.int .i64 (i:Int)))∧Hid (Boxed wr (o+2) 139 (.func (.func 131) #[] #[]))∧Hid (J pre wr)) (fun iv _=>s.size - (intOf iv).toNat)
 case atStart=>exact ⟨[],0,hi,rfl,keep rfl,HB1,HB2,HB3,h0⟩
 case round =>
  clear HB1 HB2 HB3
  obtain ⟨pre,k,hk,rfl,HX,HB1,HB2,HB3,HJ⟩:=hrel
  obtain ⟨q,hq⟩:∃ q,i+k=q:=⟨_,rfl⟩
  rw [hq] at hk HX ⊢
  by_cases hlt:(q:Int)<s.size
  ·have hsl:s.data.toList.length=s.size:=by rw [Array.length_toList]; rfl
   have hqs:q<s.size:=by omega
   have hdrop : s.data.toList.drop q = s[q]'hqs :: s.data.toList.drop (q + 1):=List.drop_eq_getElem_cons (by omega)
   have hrun : wrdRun s q = if isWrd (s[q]'hqs) = true then s[q]'hqs :: wrdRun s (q + 1) else []:=by
    unfold wrdRun
    rw [hdrop,List.takeWhile_cons]
   have HR:=keep hrun
   clear hsl hdrop hrun
   gi_wp2_with fail
   refine wpIn_wide.2 ?_
   refine wp_region_held_drew (S:=fun W=>(Boxed W o 9 (.string s)∧Boxed W (o+1) 3 (.int .i64 (i:Int))∧Boxed W (o+2) 139 (.func (.func 131) #[] #[]))∧J pre W) (by kernel_rfl) ⟨⟨HB1.out,HB2.out,HB3.out⟩,HD.out _ _ HJ.out⟩ (fun hHeld => ?_)
   refine wtg (i:=0) (v:=?a34) rfl ?b34 (by assumption) ?c34
   case b34=>(intro w hSw; have s1:=hSw.1.1.cell; have s2:=hSw.1.2.1.cell; have s3:=hSw.1.2.2.cell; go_simp; try with_reducible rfl)
   try simp only [Act.put,wp1,wp2,wp3,wp4,wp6]
   refine wtg (i:=1) (v:=?a36) rfl ?b36 (by assumption) ?c36
   case b36=>(intro w hSw; have s1:=hSw.1.1.cell; have s2:=hSw.1.2.1.cell; have s3:=hSw.1.2.2.cell; go_simp; try with_reducible rfl)
   try simp only [Act.put,wp1,wp2,wp3,wp4,wp5,wp6]
   refine wtg (i:=2) (v:=?a38) rfl ?b38 (by assumption) ?c38
   case b38=>(intro w hSw; have s1:=hSw.1.1.cell; have s2:=hSw.1.2.1.cell; have s3:=hSw.1.2.2.cell; go_simp; try with_reducible rfl)
   try simp only [Act.put,wp1,wp2,wp3,wp4,wp5,wp6]
   refine wtg (i:=3) (v:=?a40) rfl ?b40 (by assumption) ?c40
   case b40=>(intro w hSw; have s1:=hSw.1.1.cell; have s2:=hSw.1.2.1.cell; have s3:=hSw.1.2.2.cell; go_simp; try with_reducible rfl)
   try simp only [Act.put,wp1,wp2,wp3,wp4,wp5,wp6]
   refine wtg (i:=4) (v:=?a42) rfl ?b42 (by assumption) ?c42
   case b42=>(intro w hSw; have s1:=hSw.1.1.cell; have s2:=hSw.1.2.1.cell; have s3:=hSw.1.2.2.cell; go_simp; try with_reducible rfl)
   try simp only [Act.put,wp1,wp2,wp3,wp4,wp5,wp6]
   refine wtg (i:=5) (v:=?a44) rfl ?b44 (by assumption) ?c44
   case b44=>(intro w hSw; have s1:=hSw.1.1.cell; have s2:=hSw.1.2.1.cell; have s3:=hSw.1.2.2.cell; go_simp; try with_reducible rfl)
   try simp only [Act.put,wp1,wp2,wp3,wp4,wp5,wp6]
   refine wtg (i:=6) (v:=?a46) rfl ?b46 (by assumption) ?c46
   case b46=>(intro w hSw; have s1:=hSw.1.1.cell; have s2:=hSw.1.2.1.cell; have s3:=hSw.1.2.2.cell; go_simp; try with_reducible rfl)
   try simp only [Act.put,wp1,wp2,wp3,wp4,wp5,wp6]
   refine wtg (i:=7) (v:=?a48) rfl ?b48 (by assumption) ?c48
   case b48=>(intro w hSw; have s1:=hSw.1.1.cell; have s2:=hSw.1.2.1.cell; have s3:=hSw.1.2.2.cell; go_simp; try with_reducible rfl)
   try simp only [Act.put,wp1,wp2,wp3,wp4,wp5,wp6]
   refine wtg (i:=8) (v:=?a50) rfl ?b50 (by assumption) ?c50
   case b50=>(intro w hSw; have s1:=hSw.1.1.cell; have s2:=hSw.1.2.1.cell; have s3:=hSw.1.2.2.cell; go_simp; try with_reducible rfl)
   try simp only [Act.put,wp1,wp2,wp3,wp4,wp5,wp6]
   refine wal (i:=9) rfl (fun K hK => ?_)
   go_simp
   refine (lex_wrd _ _).mono ?_
   rintro e w6 ⟨rfl,rfl⟩
   go_wp2_with fail
   refine hK.out _ _ hHeld (fun hHeld => ?_)
   clear hK K
   try simp only [Act.put,wp1,wp2,wp3,wp4,wp5,wp6]
   refine wtg (i:=10) (v:=?a53) rfl ?b53 (by assumption) ?c53
   case b53=>(intro w hSw; have s1:=hSw.1.1.cell; have s2:=hSw.1.2.1.cell; have s3:=hSw.1.2.2.cell; go_simp; try with_reducible rfl)
   try simp only [Act.put,wp1,wp2,wp3,wp4,wp5,wp6]
   refine wpAnyH_done (by kernel_rfl) ?_ _
   clear hHeld
   generalize hv : isWrd (s[q]'hqs) = v
   have HV:=keep hv
   clear hv
   cases v
   ·gi_wp2_with fail
    go_end0
    refine ⟨⟨_,rfl⟩,?_⟩
    have hx:=HX.out
    rw [HR.out,HV.out,if_neg (by decide),show bytesV []=[] from rfl,List.append_nil] at hx
    rw [hx]
    exact HD.out _ _ HJ.out
   ·have hx:=HX.out
    rw [HR.out,HV.out,if_pos rfl,show bytesV (s[q]'hqs :: wrdRun s (q + 1)) = [.int .u8 (s[q]'hqs).toNat] ++ bytesV (wrdRun s (q + 1)) from rfl,← List.append_assoc] at hx
    obtain ⟨fn,tmps,assign,body,hy,hR⟩:=HY.out pre (.int .u8 (s[q]'hqs).toNat) wr.drew (HD.out _ _ HJ.out) ⟨_,hx.symm⟩
    have HX2:=keep hx
    clear hx
    have e1:wr.drew.cell? ⟨o,0,none⟩=some (.string s):=HB1.out.cell
    gi_wp2_with fail
    refine ⟨fun _=>by omega,hR.mono ?_⟩
    rintro e W3 ⟨rfl,hJ3,ho3⟩
    clear hR hy e1
    gi_wp2_with fail
    go_roundw
    case rel => exact ⟨pre ++ [.int .u8 (s[q]'hqs).toNat],k + 1,by omega,by rw [← hq]; go_num,keep (by rw [show i + (k + 1) = q + 1 from by omega]; exact HX2.out),Lib.hid ((ho3 o (by simp)).trans HB1.out),Lib.hid ((ho3 (o + 1) (by simp)).trans HB2.out),Lib.hid ((ho3 (o + 2) (by simp)).trans HB3.out),Lib.hid hJ3⟩
    case measure=>simp [intOf]; omega
  ·obtain rfl:q=s.size:=by omega
   gi_wp2_with fail
   refine wpIn_wide.2 ?_
   refine wp_region_held_drew (S:=fun W=>(Boxed W o 9 (.string s)∧Boxed W (o+1) 3 (.int .i64 (i:Int))∧Boxed W (o+2) 139 (.func (.func 131) #[] #[]))∧J pre W) (by kernel_rfl) ⟨⟨HB1.out,HB2.out,HB3.out⟩,HD.out _ _ HJ.out⟩ (fun hHeld => ?_)
   refine wtg (i:=0) (v:=?a55) rfl ?b55 (by assumption) ?c55
   case b55=>(intro w hSw; have s1:=hSw.1.1.cell; have s2:=hSw.1.2.1.cell; have s3:=hSw.1.2.2.cell; go_simp; try with_reducible rfl)
   try simp only [Act.put,wp1,wp2,wp3,wp4,wp6]
   refine wtg (i:=1) (v:=?a57) rfl ?b57 (by assumption) ?c57
   case b57=>(intro w hSw; have s1:=hSw.1.1.cell; have s2:=hSw.1.2.1.cell; have s3:=hSw.1.2.2.cell; go_simp; try with_reducible rfl)
   try simp only [Act.put,wp1,wp2,wp3,wp4,wp5,wp6]
   refine wtg (i:=2) (v:=?a59) rfl ?b59 (by assumption) ?c59
   case b59=>(intro w hSw; have s1:=hSw.1.1.cell; have s2:=hSw.1.2.1.cell; have s3:=hSw.1.2.2.cell; go_simp; try with_reducible rfl)
   try simp only [Act.put,wp1,wp2,wp3,wp4,wp5,wp6]
   refine wtg (i:=3) (v:=?a61) rfl ?b61 (by assumption) ?c61
   case b61=>(intro w hSw; have s1:=hSw.1.1.cell; have s2:=hSw.1.2.1.cell; have s3:=hSw.1.2.2.cell; go_simp; try with_reducible rfl)
   try simp only [Act.put,wp1,wp2,wp3,wp4,wp5,wp6]
   refine wtg (i:=4) (v:=?a63) rfl ?b63 (by assumption) ?c63
   case b63=>(intro w hSw; have s1:=hSw.1.1.cell; have s2:=hSw.1.2.1.cell; have s3:=hSw.1.2.2.cell; go_simp; try with_reducible rfl)
   try simp only [Act.put,wp1,wp2,wp3,wp4,wp5,wp6]
   refine wsk (i:=5) rfl (by assumption) ?_
   refine wsk (i:=6) rfl (by assumption) ?_
   refine wsk (i:=7) rfl (by assumption) ?_
   refine wsk (i:=8) rfl (by assumption) ?_
   refine wsk (i:=9) rfl (by assumption) ?_
   refine wtg (i:=10) (v:=?a65) rfl ?b65 (by assumption) ?c65
   case b65=>(intro w hSw; have s1:=hSw.1.1.cell; have s2:=hSw.1.2.1.cell; have s3:=hSw.1.2.2.cell; go_simp; try with_reducible rfl)
   try simp only [Act.put,wp1,wp2,wp3,wp4,wp5,wp6]
   refine wpAnyH_done (by kernel_rfl) ?_ _
   clear hHeld
   gi_wp2_with fail
   go_end0
   refine ⟨⟨_,rfl⟩,?_⟩
   have hx:=HX.out
   rw [show wrdRun s s.size=[] from by unfold wrdRun; rw [List.drop_of_length_le (by rw [Array.length_toList]; exact Nat.le_refl _)]; rfl,show bytesV []=[] from rfl,List.append_nil] at hx
   rw [hx]
   exact HD.out _ _ HJ.out
theorem length_wrd (s:ByteArray) (i:Nat) (w:World) (hi:i≤s.size) (hs:s.size≤4611686018427387904) :
  Calls Tryz.prog 101 #[.string s,.int .i64 (i:Int),.func (.func 131) #[] #[]] w fun e w'=>e=.returned (.int .i64 ((wrdRun s i).length:Int))∧Below w.heap.size w w':=by
 refine (callsIn_wide (n:=4)).1 ?_
 refine callsIn_of_wp_marks Tryz.func101 rfl trivial ?_ rfl
 simp only [Tryz.ntmps101,List.size_toArray,List.length_cons,List.length_nil,Nat.reduceAdd,Nat.reduceSub,Array.replicate_succ,Array.replicate_zero,List.push_toArray,List.append_toArray,List.nil_append,List.cons_append]
 gi_wp2_with fail
 refine ⟨trivial,((callsIn_wide (n:=3)).2 (lex_piece s (i:Int) 131 _)).mono ?_⟩
 rintro e w' ⟨rfl,rfl⟩
 gi_wp2
 have b0:=Boxed.new w 3 (.int .i64 0)
 have b1:=Boxed.new (w.alloc (.cells #[.int .i64 0] 3)) 9 (.string s)
 have b2:=Boxed.new ((w.alloc (.cells #[.int .i64 0] 3)).alloc (.cells #[.string s] 9)) 3 (.int .i64 (i:Int))
 have b3:=Boxed.new (((w.alloc (.cells #[.int .i64 0] 3)).alloc (.cells #[.string s] 9)).alloc (.cells #[.int .i64 (i:Int)] 3)) 139 (.func (.func 131) #[] #[])
 simp only [World.size_alloc] at b1 b2 b3
 have hB0:Below w.heap.size w ((((w.alloc (.cells #[.int .i64 0] 3)).alloc (.cells #[.string s] 9)).alloc (.cells #[.int .i64 (i:Int)] 3)).alloc (.cells #[.func (.func 131) #[] #[]] 139)):=((((Below.refl _ w).alloc (Nat.le_refl _) _).alloc (by simp) _).alloc (by simp; omega) _).alloc (by simp; omega) _
 have hrl:(wrdRun s i).length≤s.size:=by
  unfold wrdRun
  refine Nat.le_trans (List.takeWhile_prefix _).length_le ?_
  rw [List.length_drop,Array.length_toList]
  exact Nat.sub_le _ _
 have HRL:=keep hrl
 clear hrl
 refine range_handsV rfl (by decide) (gf:=146) (lb:=#[.pointer (some ⟨w.heap.size+1+1,0,none⟩),.pointer (some ⟨w.heap.size+1,0,none⟩),.pointer (some ⟨w.heap.size+1+2,0,none⟩)]) rfl trivial (enters_of Tryz.func146 (by kernel_rfl) rfl)
  (bytesV (wrdRun s i)) rfl [w.heap.size+1,w.heap.size+1+1,w.heap.size+1+2] (by simp) (piece_wrd 3 (by decide) s i hi hs (w.heap.size+1) _ ((b1.alloc _).alloc _) (b2.alloc _) b3)
  (Counts w) ?put (fun _ _ ob h=>⟨h.1.alloc ob,h.2.alloc h.2.size ob⟩) (fun _ _ h=>⟨h.1,h.2.drew⟩) (fun _ _ _=>trivial)
  ⟨((b0.alloc _).alloc _).alloc _,hB0⟩
  (fun x=>{ tmps:=#[.string s,.int .i64 (i:Int),.func (.func 131) #[] #[],undef,undef,undef,.int .i64 0,.pointer (some ⟨w.heap.size,0,none⟩),.string s,.int .i64 (i:Int),.func (.func 131) #[] #[],.func (.func 146) #[] #[.pointer (some ⟨w.heap.size+1+1,0,none⟩),.pointer (some ⟨w.heap.size+1,0,none⟩),.pointer (some ⟨w.heap.size+1+2,0,none⟩)],x,undef,undef,undef],defers:=[] }) ?assign ?body ?done
 case put =>
  intro pre W l ob ob' h hl hlo hc
  simp at hl
  exact ⟨(World.putObj_heap_other (by omega)).trans h.1,h.2.os,h.2.tape,h.2.output,by simpa using h.2.size,fun j hj=>(World.putObj_heap_other (by omega)).trans (h.2.block j hj)⟩
 case assign =>
  intro l x W K hK
  gi_wp2
  simpa using hK
 case body =>
  rintro l pre x W hl ⟨hv,hB⟩ ho hpx
  have hc:=hv.cell
  have hf:=hv.frozen
  have hpl:pre.length<4611686018427387904:=by
   have:=hpx.length_le
   have h2:=HRL.out
   simp [bytesV] at this
   omega
  clear b0 b1 b2 b3
  gi_wp2_with fail
  refine ⟨KeepsFrom.of_grownBy (grownBy_setCell' W w.heap.size _) (fun j hj=>by obtain rfl:=Option.some.inj hj; simp; omega),⟨?_,hB.setCell (by simp) _⟩,fun o ho'=>Below.heap_setCell W ⟨w.heap.size,0,none⟩ _ _ (by simp at ho'; rcases ho' with rfl | rfl | rfl <;> simp <;> omega)⟩
  rw [List.length_append]
  exact hv.set _
 case done =>
  rintro D W hD ⟨hv,hB⟩ hK
  have hc:=hv.cell
  gi_wp2
  refine ⟨by simp,.inl ⟨_,_,rfl,run_takeDeferred hK,?_⟩⟩
  refine ⟨_,results_tmp rfl _ _ _,?_,hB.trans (belowK_b (w:=w) (Nat.le_refl _) W D _ _ (by simp at hD; omega) hK rfl rfl)⟩
  simp [bytesV]
end
section
open Go.RowKit
def Bytes8 (w:World) (b:Nat) (l:List UInt8):Prop:=∀ j (hj:j<l.length),w.cell? ⟨b,j,none⟩=some (.int .u8 (l[j].toNat:Int))∧w.frozen? ⟨b,j,none⟩=false
theorem Bytes8.set_ {w:World} {b:Nat} {l:List UInt8} (h:Bytes8 w b l) (i:Nat) (_hi:i<l.length) (x:UInt8) (v:Int) (hv:v=(x.toNat:Int)):Bytes8 (w.setCell ⟨b,i,none⟩ (.int .u8 v)) b (l.set i x):=by
 subst hv
 intro j hj
 have hj':j<l.length:=by simpa using hj
 refine ⟨?_,by rw [World.frozen?_setCell]; exact (h j hj').2⟩
 by_cases e:i=j
 ·subst e
  rw [World.cell?_setCell_same' _ _ _ (by rw [(h i hj').1]; rfl)]; simp
 ·rw [World.cell?_setCell_other (h:=by intro h; injection h with _ h2 _; exact e h2),(h j hj').1]; simp [e]
theorem Bytes8.made (w:World) (s:ByteArray) (t:TypeId) (cap:Nat):Bytes8 (w.alloc (.cells (bytesRow s cap) t ((bytesRow s cap).size,(bytesRow s cap).size+1))) w.heap.size s.data.toList:=by
 intro j hj
 have hj':j<s.data.size:=by simpa using hj
 have hsz:s.data.size≤(bytesRow s cap).size:=by unfold bytesRow; simp
 refine ⟨?_,?_⟩
 ·rw [World.cell?_alloc_mark,bytesRow_at s cap j hj']
  simp
 ·rw [World.frozen?_alloc_mark]
  simp; omega
theorem addr_add0 (b j:Nat):(Addr.add ⟨b,0,none⟩ j)=⟨b,j,none⟩:=by
 unfold Addr.add; split
 ·subst_vars; rfl
 ·simp
theorem Bytes8.string {P:Program} {w:World} {b:Nat} {l:List UInt8} (h:Bytes8 w b l) (src dst e:TypeId) (hs:P.underlying src=some (.slice e)) (he:P.underlying e=some (.int .u8)) (hd:P.underlying dst=some .string) (cap:Nat) :
  (convert src dst (.slice (some ⟨b,0,none⟩) l.length cap)).run P w=.ok (.string ⟨l.toArray⟩) w :=
 run_convert_bytes_back w src dst e ⟨b,0,none⟩ cap l hs he hd fun j hj=>by have:=(h j hj).1; have e:(Addr.add ⟨b,0,none⟩ j)=⟨b,j,none⟩:=addr_add0 b j; rw [e]; exact this
def upTo (l:List UInt8) (k:Nat):List UInt8:=(l.take k).map upB++l.drop k
theorem upTo_len (l:List UInt8) (k:Nat):(upTo l k).length=l.length:=by simp [upTo]; omega
theorem upTo_at (l : List UInt8) (k : Nat) (h : k < l.length) : (upTo l k)[k]'(by rw [upTo_len]; exact h) = l[k]:=by
 unfold upTo
 rw [List.getElem_append_right (by simp; omega)]
 simp [Nat.min_eq_left (Nat.le_of_lt h)]
theorem upTo_succ (l:List UInt8) (k:Nat) (h:k<l.length):upTo l (k+1)=(upTo l k).set k (upB l[k]):=by
 have hm:((l.take k).map upB).length=k:=by simp; omega
 unfold upTo
 rw [List.set_append_right _ _ (by omega),hm,Nat.sub_self,List.take_succ_eq_append_getElem h,List.map_append,List.append_assoc,List.drop_eq_getElem_cons h]
 rfl
theorem upB_same (b:UInt8) (h:¬ (97≤b.toNat∧b.toNat≤122)):upB b=b:=by unfold upB; rw [if_neg h]
theorem upB_low (b:UInt8) (h:97≤b.toNat∧b.toNat≤122):(upB b).toNat=b.toNat - 32:=by
 unfold upB; rw [if_pos h,UInt8.toNat_ofNat']; omega
end
section
open Go.RowKit
theorem moved_up (b:UInt8) (o p:Nat) (w:World) (h1:w.cell? ⟨o,0,none⟩=some (.int .u8 97)) (h2:w.cell? ⟨p,0,none⟩=some (.int .i64 (-32))) :
  Calls Tryz.prog 129 #[.int .u8 b.toNat,.pointer (some ⟨o,0,none⟩),.pointer (some ⟨p,0,none⟩)] w fun e w'=>e=.returned (.int .u8 (upB b).toNat)∧w'=w:=by
 have hb8:b.toNat<256:=b.toNat_lt
 rcases (show (97≤b.toNat∧b.toNat≤122)∨b.toNat<97∨122<b.toNat from by omega) with ⟨g1,g2⟩ | g1 | g1
 ·have hu:=keep (upB_low b ⟨g1,g2⟩)
  go_enter Tryz.func129,Tryz.ntmps129
  go_wp2_with fail
  go_ret
  exact ⟨by rw [hu.out]; simp; omega,rfl⟩
 ·have hu:=keep (upB_same b (by omega))
  go_enter Tryz.func129,Tryz.ntmps129
  go_wp2_with fail
  go_ret
  exact ⟨by rw [hu.out]; rfl,rfl⟩
 ·have hu:=keep (upB_same b (by omega))
  go_enter Tryz.func129,Tryz.ntmps129
  go_wp2_with fail
  go_ret
  exact ⟨by rw [hu.out]; rfl,rfl⟩
theorem changed_up (s:ByteArray) (o p:Nat) (w:World) (hs:s.size≤4611686018427387904) (h1:Boxed w o 5 (.int .u8 97)) (h2:Boxed w p 3 (.int .i64 (-32))) :
  Calls Tryz.prog 72 #[.string s,.func (.func 129) #[] #[.pointer (some ⟨o,0,none⟩),.pointer (some ⟨p,0,none⟩)]] w fun e w'=>∃ cap,e=.returned (.slice (some ⟨w.heap.size,0,none⟩) s.size cap)∧Bytes8 w' w.heap.size (s.data.toList.map upB)∧Below w.heap.size w w':=by
 have hcv:=run_bytes_of_string (P:=Tryz.prog) w 9 67 5 s Tryz.underlying9 Tryz.underlying67 Tryz.underlying5
 have hm:=Bytes8.made w.drew s 5 (grownCap w s.size 0 5)
 have hbl:Below w.heap.size w (w.drew.alloc (.cells (bytesRow s (grownCap w s.size 0 5)) 5 ((bytesRow s (grownCap w s.size 0 5)).size,(bytesRow s (grownCap w s.size 0 5)).size+1))):=(Below.refl _ _).drew.alloc (Nat.le_refl _) _
 generalize (w.drew.alloc (.cells (bytesRow s (grownCap w s.size 0 5)) 5 ((bytesRow s (grownCap w s.size 0 5)).size,(bytesRow s (grownCap w s.size 0 5)).size+1)))=W0 at hcv hm hbl
 generalize grownCap w s.size 0 5=cap at hcv
 have HM:Hid (Bytes8 W0 w.heap.size s.data.toList):=hm
 have HB:=Lib.hid hbl
 have HO:=Lib.hid h1
 have HP:=Lib.hid h2
 clear hm hbl h1 h2
 have hlen:s.data.toList.length=s.size:=by simp
 have HL:=Lib.hid hlen
 clear hlen
 go_enter Tryz.func72,Tryz.ntmps72
 go_wp2_with fail
 go_loopw [12] (fun i wr=>∃ k:Nat,k≤s.size∧i=.int .i64 k∧Hid (Bytes8 wr w.heap.size (upTo s.data.toList k))∧Hid (Below w.heap.size w wr)) (fun i _=>s.size - (intOf i).toNat)
 case atStart=>exact ⟨0,Nat.zero_le _,rfl,by simpa [upTo] using HM,HB⟩
 case round =>
  obtain ⟨k,hk,rfl,H1,H2⟩:=hrel
  clear HM HB hcv
  by_cases hlt:k<s.size
  ·have hlt':k<s.data.toList.length:=by rw [HL.out]; exact hlt
   have hcell:=(H1.out k (by rw [upTo_len]; exact hlt')).1
   have hfroz:=(H1.out k (by rw [upTo_len]; exact hlt')).2
   rw [upTo_at _ _ hlt'] at hcell
   obtain ⟨b,hb⟩:∃ b,b=s.data.toList[k]:=⟨_,rfl⟩
   rw [← hb] at hcell
   have HBy:=Lib.hid hb
   have HLT:=Lib.hid hlt'
   clear hb
   go_wp2_with fail
   refine (moved_up b o p _ ((H2.out.cell (p:=⟨o,0,none⟩) HO.out.lt).trans HO.out.cell) ((H2.out.cell (p:=⟨p,0,none⟩) HP.out.lt).trans HP.out.cell)).mono ?_
   rintro e w5 ⟨rfl,rfl⟩
   go_wp2_with fail
   go_roundw
   case rel =>
    refine ⟨k+1,by omega,by go_num,?_,Lib.hid (H2.out.setCell (Nat.le_refl _) _)⟩
    show Bytes8 _ _ _
    rw [upTo_succ _ _ HLT.out,← HBy.out]
    exact H1.out.set_ k (by rw [upTo_len]; exact HLT.out) _ _ rfl
   case measure=>simp [intOf]; omega
  ·have hke:upTo s.data.toList k=s.data.toList.map upB:=by
    have:k=s.data.toList.length:=by rw [HL.out]; omega
    unfold upTo
    rw [List.take_of_length_le (by omega),List.drop_eq_nil_of_le (by omega),List.append_nil]
   rw [hke] at H1
   clear hke
   go_wp2_with fail
   go_ret
   exact ⟨_,rfl,H1.out,H2.out⟩
theorem glyph_moved_up (s:ByteArray) (w:World) (hs:s.size≤4611686018427387904) :
  Calls Tryz.prog 100 #[.string s,.int .u8 97,.int .i64 (-32)] w fun e w'=>e=.returned (.string ⟨(s.data.toList.map upB).toArray⟩)∧Below w.heap.size w w':=by
 have b1:=Boxed.new w 5 (.int .u8 97)
 have b2:=Boxed.new (w.alloc (.cells #[.int .u8 97] 5)) 3 (.int .i64 (-32))
 have b1':=b1.alloc (.cells #[.int .i64 (-32)] 3)
 have hB:Below w.heap.size w ((w.alloc (.cells #[.int .u8 97] 5)).alloc (.cells #[.int .i64 (-32)] 3)):=((Below.refl _ w).alloc (Nat.le_refl _) _).alloc (by simp) _
 rw [World.size_alloc] at b2
 have HB:=Lib.hid hB
 have HB1:=Lib.hid b1'
 have HB2:=Lib.hid b2
 clear b1 b2 b1' hB
 go_enter Tryz.func100,Tryz.ntmps100
 go_wp2_with fail
 generalize (w.alloc (.cells #[.int .u8 97] 5)).alloc (.cells #[.int .i64 (-32)] 3)=W0 at HB HB1 HB2 ⊢
 refine (changed_up s _ _ _ hs HB1.out HB2.out).mono ?_
 rintro e w1 ⟨cap,rfl,hb8,hb⟩
 have HB3:=Lib.hid (below_step HB.out hb)
 have hcv2:=hb8.string (P:=Tryz.prog) 67 9 5 Tryz.underlying67 Tryz.underlying5 Tryz.underlying9 cap
 rw [List.length_map,show s.data.toList.length=s.size from by simp] at hcv2
 clear hb8 hb HB HB1 HB2
 go_wp2_with fail
 go_ret
 exact ⟨rfl,HB3.out⟩
theorem glyph_Upper (s:ByteArray) (w:World) (hs:s.size≤4611686018427387904) :
  Calls Tryz.prog 79 #[.string s] w fun e w'=>e=.returned (.string ⟨(s.data.toList.map upB).toArray⟩)∧Below w.heap.size w w':=by
 go_enter Tryz.func79,Tryz.ntmps79
 go_wp2_with fail
 refine (glyph_moved_up s _ hs).mono ?_
 rintro e w1 ⟨rfl,hb⟩
 have HB:=Lib.hid hb
 clear hb
 go_wp2_with fail
 go_ret
 exact ⟨rfl,HB.out⟩
end
section
open Go.RowKit
theorem dec_signed (n:Nat) (neg:Bool) (w:World) (hn:n≤9223372036854775807) :
  Calls Tryz.prog 81 #[.int .u64 0,.int .u64 (n:Int),.bool neg] w fun e w'=>e=.returned (.tuple #[.int .i64 (if neg then -(n:Int) else n),.bool true])∧w'=w:=by
 have hn2:(n:Int)≤9223372036854775807:=by omega
 have hn3:0≤(n:Int):=by omega
 cases neg
 ·go_enter Tryz.func81,Tryz.ntmps81
  go_wp2_with fail
  exact bodyPost_ret (v:=.tuple #[.int .i64 (n:Int),.bool true]) (by simp [results,Tryz.results81,go_sem]) rfl ⟨rfl,rfl⟩
 ·go_enter Tryz.func81,Tryz.ntmps81
  go_wp2_with fail
  exact bodyPost_ret (v:=.tuple #[.int .i64 (-(n:Int)),.bool true]) (by simp [results,Tryz.results81,go_sem]) rfl ⟨rfl,rfl⟩
theorem dec_digits (s:ByteArray) (w:World) (hs:s.size≤4611686018427387904) :
  Calls Tryz.prog 80 #[.string s] w fun e w'=>e=.returned (.int .i64 ((s.data.toList.takeWhile isDig).length:Int))∧w'=w:=by
 go_enter Tryz.func80,Tryz.ntmps80
 go_wp2_with fail
 go_loopw [6] (fun iv wr=>∃ k:Nat,k≤s.size∧iv=.int .i64 (k:Int)∧Keep ((s.data.toList.takeWhile isDig).length=k+((s.data.toList.drop k).takeWhile isDig).length)∧wr=w) (fun iv _=>s.size - (intOf iv).toNat)
 case atStart=>exact ⟨0,Nat.zero_le _,rfl,keep (by simp),rfl⟩
 case round =>
  obtain ⟨k,hk,rfl,HX,rfl⟩:=hrel
  have hsl:s.data.toList.length=s.size:=by rw [Array.length_toList]; rfl
  by_cases hlt:(k:Int)<s.size
  ·have hqs:k<s.size:=by omega
   have hdrop : s.data.toList.drop k = s[k]'hqs :: s.data.toList.drop (k + 1):=List.drop_eq_getElem_cons (by omega)
   have hx:=HX.out
   rw [hdrop,List.takeWhile_cons] at hx
   have hd:=dig_int (s[k]'hqs)
   have hb8 : (s[k]'hqs).toNat < 256:=(s[k]'hqs).toNat_lt
   cases hv : isDig (s[k]'hqs)
   ·rw [hv] at hd hx
    have HE:=keep hx
    have hc : ((s[k]'hqs).toNat : Int) < 48 ∨ 57 < ((s[k]'hqs).toNat : Int):=by
     simp at hd; omega
    clear hx hd hv hdrop hsl
    rcases hc with hc | hc
    ·go_wp2_with fail
     go_ret
     exact ⟨by rw [HE.out]; rfl,rfl⟩
    ·have hc2 : ¬ ((s[k]'hqs).toNat : Int) < 48:=by omega
     go_wp2_with fail
     go_ret
     exact ⟨by rw [HE.out]; rfl,rfl⟩
   ·rw [hv] at hd hx
    have HE:=keep hx
    have hc : 48 ≤ ((s[k]'hqs).toNat : Int) ∧ ((s[k]'hqs).toNat : Int) ≤ 57:=by
     simp at hd; omega
    obtain ⟨hc1,hc2⟩:=hc
    clear hx hd hv hdrop hsl
    go_wp2_with fail
    go_roundw
    case rel=>exact ⟨k+1,by omega,by go_num,keep (by rw [HE.out]; simp; omega),by first | trivial | rfl⟩
    case measure=>simp [intOf]; omega
  ·have hke:k=s.size:=by omega
   have HE:=keep (show (s.data.toList.takeWhile isDig).length=s.size by rw [HX.out,List.drop_of_length_le (by omega),hke]; rfl)
   clear hsl
   go_wp2_with fail
   go_ret
   exact ⟨by rw [HE.out]; rfl,rfl⟩
def byteS (s:ByteArray) (i:Nat):UInt8:=s.data.toList[i]?.getD 0
theorem reader_next (s:ByteArray) (rb i:Nat) (w:World) (_hs:s.size≤4611686018427387904) (_hi:i≤4611686018427387904) (hr:w.cell? ⟨rb,0,none⟩=some (.string s)) :
  Calls Tryz.prog 106 #[.pointer (some ⟨rb,0,none⟩),.int .i64 (i:Int)] w fun e w'=>e=.returned (.int .u8 (byteS s i).toNat)∧w'=w:=by
 have hsl:s.data.toList.length=s.size:=by rw [Array.length_toList]; rfl
 by_cases hlt:(i:Int)<s.size
 ·have hqs:i<s.size:=by omega
  have hb : byteS s i = s[i]'hqs:=by
   unfold byteS
   rw [List.getElem?_eq_getElem (by omega)]
   rfl
  have HB:=keep hb
  clear hb hsl
  go_enter Tryz.func106,Tryz.ntmps106
  go_wp2_with fail
  go_ret
  exact ⟨by rw [HB.out]; rfl,rfl⟩
 ·have hb:byteS s i=0:=by
   unfold byteS
   rw [List.getElem?_eq_none (by omega)]
   rfl
  have HB:=keep hb
  clear hb hsl
  go_enter Tryz.func106,Tryz.ntmps106
  go_wp2_with fail
  go_ret
  exact ⟨by rw [HB.out]; rfl,rfl⟩
theorem run_take (p:UInt8→Bool) (l:List UInt8):l.take (l.takeWhile p).length=l.takeWhile p:=by
 have h:=List.takeWhile_append_dropWhile (p:=p) (l:=l)
 conv=>lhs; arg 2; rw [← h]
 rw [List.take_left]
theorem reader_plain (s:ByteArray) (rb i:Nat) (w:World) (hs:s.size≤4611686018427387904) (hi:i≤s.size) (hr:w.cell? ⟨rb,0,none⟩=some (.string s)) :
  Calls Tryz.prog 105 #[.pointer (some ⟨rb,0,none⟩),.int .i64 (i:Int)] w fun e w'=>e=.returned (.string ⟨((wrdRun s i).map upB).toArray⟩)∧Below w.heap.size w w':=by
 have hsl:s.data.toList.length=s.size:=by rw [Array.length_toList]; rfl
 obtain ⟨n,hn⟩:∃ n,(wrdRun s i).length=n:=⟨_,rfl⟩
 have hle:i+n≤s.size:=by
  have h:=(List.takeWhile_prefix (l:=s.data.toList.drop i) isWrd).length_le
  rw [List.length_drop] at h
  have h2:(wrdRun s i).length=((s.data.toList.drop i).takeWhile isWrd).length:=rfl
  omega
 have hx:(s.extract i (i+n)).data.toList=wrdRun s i:=by
  rw [Lib.extract_data,Nat.add_sub_cancel_left,← hn]
  exact run_take _ _
 have HX:=keep hx
 have HN:=keep hn
 have ht:((i:Int)+(n:Int)).toNat=i+n:=by omega
 have h1:(i:Int)+n≤s.size:=by omega
 have h2:(i:Int)≤(i:Int)+n:=by omega
 have hes:(s.extract i (i+n)).size≤4611686018427387904:=by simp; omega
 clear hsl hx hn
 go_enter Tryz.func105,Tryz.ntmps105
 go_wp2_with fail
 refine (length_wrd s i _ hi hs).mono ?_
 rintro e w1 ⟨rfl,hb⟩
 have hr1:=cell_step hb hr
 have HB:=Lib.hid hb
 clear hb hr
 rw [HN.out]
 go_wp2_with fail
 refine (glyph_Upper _ _ hes).mono ?_
 rintro e w2 ⟨rfl,hb2⟩
 have HB2:=Lib.hid (below_step HB.out hb2)
 clear hb2 hr1
 rw [HX.out]
 go_wp2_with fail
 go_ret
 exact ⟨rfl,HB2.out⟩
end
