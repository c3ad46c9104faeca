/- Plain: what dec.Parse makes of any text. No program stands here. Plain: the texts of ranges and of numbers are read as the tokens. No program stands here. What a strings.Builder's WriteString comes to, off the shelf's own laws. The contracts of glyph.Check and glyph.Quote. lex.name: whether a word may be a name. -/
import Derived.Test.YtdplcdhpnmcdjaaGreatDoorELexD
import Derived.Test.YtdplcdhpnmcdjaaGreatDoorEShelf
import Derived.Test.YtdplcdhpnmcdjaaGreatDoorETg
import Derived.Shelf.Strings.BuilderF
import Derived.Test.YtdplcdhpnmcdjaaGreatDoorELexI
import Derived.Test.YtdplcdhpnmcdjaaGreatDoorELexP
import Derived.Lib.Replace
import Derived.Test.YtdplcdhpnmcdjaaGreatDoorELexC
namespace Go.Proofs.YtdplcdhpnmcdjaaGreatDoor
open Go.RowKit
def bT (l:List UInt8):List UInt8:=if l.head?=some 45 then l.tail else l
def jI:List UInt8→Option (List UInt8)
 | []=>some []
 | b::p=>if b=46∧p≠[]∧p.all ah=true then some p else none
def ik:List UInt8:=[48,48,48,48,48]
def upD (p:List UInt8):Bool:=decide (53≤((p++ik).getD 4 0).toNat)
def it (w p:List UInt8):Nat:=cz (w++(p++ik).take 4)+if upD p then 1 else 0
def cx (l:List UInt8):Int×Int :=
 if (bT l).takeWhile ah=[] then (0,4) else match jI ((bT l).dropWhile ah) with
 | none=>(0,4)
 | some p=>if it ((bT l).takeWhile ah) p≤aD then ((if l.head?=some 45 then -(it ((bT l).takeWhile ah) p:Int) else it ((bT l).takeWhile ah) p),0) else (0,3)
theorem kL {l:List UInt8} (h:(bT l).takeWhile ah=[]):cx l=(0,4):=if_pos h
theorem mE {l:List UInt8} (h:jI ((bT l).dropWhile ah)=none):cx l=(0,4):=by
 unfold cx
 split
 ·rfl
 rw [h]
theorem pa {l p:List UInt8} (h0:(bT l).takeWhile ah≠[]) (h:jI ((bT l).dropWhile ah)=some p) :
  cx l=if it ((bT l).takeWhile ah) p≤aD then ((if l.head?=some 45 then -(it ((bT l).takeWhile ah) p:Int) else it ((bT l).takeWhile ah) p),0) else (0,3):=by
 unfold cx
 rw [if_neg h0,h]
theorem rT {z p:List UInt8} (h:jI z=some p):∀ b∈p,ah b=true:=by
 cases z with
 | nil=>cases h; intro b hb; cases hb
 | cons b q =>
  by_cases g:b=46∧q≠[]∧q.all ah=true
  ·have e:jI (b::q)=some q:=if_pos g
   rw [e] at h
   cases h
   exact List.all_eq_true.1 g.2.2
  have e:jI (b::q)=none:=if_neg g
  rw [e] at h; cases h
open Go.Lib (decDigits)
section
open Go.RowKit Go.Proofs.Tryz
theorem pJ (B b:Nat) (bs:List Value) (s:ByteArray) (w:World) (h:Lib.IsBuilderF 119 5 B b bs w) (hlen:bs.length+s.size≤140737488355328) (hBw:B≤w.heap.size) :
  Calls prog 93 #[.pointer (some ⟨b,0,none⟩),.string s] w fun e w'=>e=.returned (.tuple #[.int .i64 s.size,.nilIface])∧(Lib.BuilderAtF 119 5 B b (.pointer (some ⟨b,0,none⟩)) (bs++Lib.strCells s) w'∧Below B w w') :=
 Any.Builder_WriteString_f { Tryz.lays155 with } Tryz.Builder_Extra_155 B b bs s w h hlen hBw
def Bld (B b:Nat) (l:List UInt8) (w:World):Prop:=Lib.IsBuilderF 119 5 B b (Lib.byteCells l) w
theorem gK {T e:TypeId} {B b:Nat} {p:Value} {bs:List Value} {w w':World} (h:Lib.BuilderAtF T e B b p bs w) (hb:Below w.heap.size w w'):Lib.BuilderAtF T e B b p bs w':=by
 have hlt:=h.lt
 obtain ⟨hB,v,hv,hown,hne⟩:=h
 exact ⟨hB,v,(hb.block b hlt).trans hv,hown.kept (row:=none) ⟨hb.os,hb.tape,hb.output,hb.size,fun k hk _=>hb.block k hk⟩ (by cases hv:v.ownBlock <;> simp),hne⟩
theorem Bld.below {B b:Nat} {l:List UInt8} {w w':World} (h:Bld B b l w) (hb:Below w.heap.size w w'):Bld B b l w' :=
 h.elim (fun h=>.inl (gK h hb)) fun h=>.inr (gK h hb)
theorem Bld.new (w:World):Bld w.heap.size w.heap.size [] (w.alloc (.cells #[.pointer none,.slice none 0 0] 119)) :=
 .inl ⟨Nat.le_refl _,.slice none 0 0,Array.getElem?_push_size,World.ownsRowF_nil _ _ _ _,by simp [Value.ownBlock]⟩
theorem Bld.write {B b:Nat} {l:List UInt8} {w:World} (h:Bld B b l w) (s:ByteArray) (hl:l.length+s.size≤140737488355328) (hBw:B≤w.heap.size) :
  Calls prog 93 #[.pointer (some ⟨b,0,none⟩),.string s] w fun e w'=>e=.returned (.tuple #[.int .i64 s.size,.nilIface])∧Bld B b (l++s.data.toList) w'∧Below B w w':=by
 refine (pJ B b _ s w h (by simpa [Lib.byteCells] using hl) hBw).mono ?_
 rintro e w' ⟨h1,h2,h3⟩
 refine ⟨h1,.inr ?_,h3⟩
 have e1:Lib.byteCells (l++s.data.toList)=Lib.byteCells l++Lib.strCells s:=by simp [Lib.byteCells,Lib.strCells]
 rw [e1]
 exact h2
theorem Bld.len {B b:Nat} {l:List UInt8} {w:World} (h:Bld B b l w) :
  Calls prog 102 #[.pointer (some ⟨b,0,none⟩)] w fun e w'=>e=.returned (.int .i64 l.length)∧w'=w:=by
 refine (Tryz.Builder_Len_f B b _ w h).mono ?_
 rintro e w' ⟨h1,h2⟩
 exact ⟨by rw [h1]; simp [Lib.byteCells],h2⟩
theorem Bld.text {B b:Nat} {l:List UInt8} {w:World} (h:Bld B b l w) (hBw:B≤w.heap.size) :
  Calls prog 94 #[.pointer (some ⟨b,0,none⟩)] w fun e w'=>e=.returned (.string ⟨l.toArray⟩)∧Bld B b l w'∧Below B w w' :=
 Tryz.Builder_String_any_f B b l w h hBw
end
section
open Go.RowKit Go.Proofs.Tryz
theorem fE:∀ (s:List UInt8) (k:Nat),s.count 34≤k→Lib.replaceK [34] [34,34] k s=s.flatMap bS
 | [],k,_=>by cases k <;> rfl
 | b::s,k,h=>by
  by_cases hb:b=34
  ·subst hb
   rw [List.count_cons_self] at h
   obtain ⟨k,rfl⟩:∃ n,k=n+1:=⟨k - 1,by omega⟩
   have hi:Lib.index (34::s) [34]=((0:Nat):Int):=by rw [Lib.index_one]; rfl
   rw [Lib.replaceK_hit _ _ _ _ 0 hi,List.flatMap_cons]
   have:=fE s k (by omega)
   simp only [List.length_cons,List.length_nil,Nat.zero_add,List.drop_succ_cons,List.drop_zero,List.take_zero,List.nil_append]
   rw [this]
   rfl
  have hb':(b == 34)=false:=beq_eq_false_iff_ne.2 hb
  rw [List.count_cons_of_ne hb] at h
  have hq:(b::s).flatMap bS=b::s.flatMap bS:=by
   rw [List.flatMap_cons]
   unfold bS
   rw [if_neg hb]
   rfl
  rw [hq,← fE s k h]
  cases k with
  | zero=>rfl
  | succ k =>
   have h1:Lib.index (b::s) [34]=if Lib.index s [34] == -1 then -1 else Lib.index s [34]+1:=by
    rw [Lib.index_one,Lib.index_one]
    conv=>lhs; unfold Lib.indexByte
    rw [hb']
    rfl
   have hge:=Lib.index_ge s [34]
   by_cases hm:Lib.index s [34]=-1
   ·have e1:Lib.index (b::s) [34]=-1:=by rw [h1,if_pos (beq_iff_eq.2 hm)]
    unfold Lib.replaceK
    rw [if_pos (beq_iff_eq.2 e1),if_pos (beq_iff_eq.2 hm)]
   have hm':¬ (Lib.index s [34] == -1)=true:=fun e=>hm (beq_iff_eq.1 e)
   obtain ⟨i,hi⟩:∃ i:Nat,Lib.index s [34]=i:=⟨(Lib.index s [34]).toNat,by omega⟩
   have e1:Lib.index (b::s) [34]=((i+1:Nat):Int):=by rw [h1,if_neg hm',hi]; rfl
   rw [Lib.replaceK_hit _ _ _ _ _ e1,Lib.replaceK_hit _ _ _ _ _ hi]
   simp
theorem oj (s:List UInt8):Lib.replaceAll s [34] [34,34]=s.flatMap bS:=by
 unfold Lib.replaceAll Lib.replace
 rw [if_neg (by decide),Lib.replaceNum,if_pos (Or.inl (by decide)),fE]
 rw [Lib.count_one]
 exact Nat.le_refl _
theorem jL:∀ l:List UInt8,(l.flatMap bS).length≤2 * l.length
 | []=>by simp
 | b::l=>by
  have:=jL l
  have h2:(bS b).length≤2:=by unfold bS; split <;> simp
  rw [List.flatMap_cons,List.length_append,List.length_cons]
  omega
def aC (l:List UInt8):Int:=if 256<l.length then 5 else if l.all aj then 0 else 4
theorem fp (s:ByteArray) (w:World) (hs:s.size≤4611686018427387904) :
  Calls prog 71 #[.string s] w fun e w'=>e=.returned (.int .i64 (aC s.data.toList))∧Below w.heap.size w w':=by
 have hl:s.data.toList.length=s.size:=Array.length_toList
 obtain ⟨c,hc⟩:=ex (aC s.data.toList)
 rw [hc]
 unfold aC at hc
 rw [hl] at hc
 have HC:=keep hc
 clear hc hl
 go_enter func71,ntmps71
 by_cases h:256<s.size
 ·have h1:decide ((256:Int)<(s.size:Int))=true:=decide_eq_true (by omega)
  go_wp2
  go_ret
  have:=HC.out
  rw [if_pos h] at this
  exact ⟨by rw [this]; rfl,Below.refl _ _⟩
 have h1:decide ((256:Int)<(s.size:Int))=false:=decide_eq_false (by omega)
 go_wp2_with fail
 refine (dq s _ hs).mono ?_
 rintro e w1 ⟨rfl,hb⟩
 obtain ⟨p,hp⟩:=ex (s.data.toList.all aj)
 rw [hp]
 have HP:=keep hp
 have HB:=Lib.hid hb
 clear hp hb
 cases p with
 | true =>
  go_wp2
  go_ret
  have:=HC.out
  rw [if_neg h,if_pos HP.out] at this
  exact ⟨by rw [this]; rfl,HB.out⟩
 | false =>
  go_wp2
  go_ret
  have:=HC.out
  rw [if_neg h,if_neg (by rw [HP.out]; decide)] at this
  exact ⟨by rw [this]; rfl,HB.out⟩
theorem vl (W:World) (x y:Int) :
  (convert 42 9 (.slice (some ⟨W.heap.size,0,none⟩) 2 2)).run prog (W.alloc (.cells #[.int .u8 x,.int .u8 y] 5))=.ok (.string ⟨#[UInt8.ofNat x.toNat,UInt8.ofNat y.toNat]⟩) (W.alloc (.cells #[.int .u8 x,.int .u8 y] 5)):=by
 rw [run_convert_bytes_string _ _ _ 5 _ _ _ underlying42 underlying5 underlying9]
 rw [run_bytesToString _ _ 2 2 [x,y]]
 ·rfl
 simp [go_sem]
def jK (l:List UInt8):List UInt8:=if aC l=0 then dr l else []
theorem mh (s:ByteArray) (w:World) (hs:s.size≤4611686018427387904) (hm:∃ m,w.cell? ⟨1,0,none⟩=some (.int .i64 m)) :
  Calls prog 67 #[.string s] w fun e w'=>e=.returned (.tuple #[.string ⟨(jK s.data.toList).toArray⟩,.int .i64 (aC s.data.toList)])∧Below w.heap.size w w':=by
 obtain ⟨m,hm⟩:=hm
 have HM:=Lib.hid hm
 clear hm
 obtain ⟨c,hc⟩:=ex (aC s.data.toList)
 obtain ⟨q,hq⟩:=ex (jK s.data.toList)
 have HC:=keep hc
 have HQ:=keep hq
 rw [hc,hq]
 clear hc hq
 go_enter func67,ntmps67
 go_wp2_with fail
 refine (fp s _ hs).mono ?_
 rintro e w1 ⟨rfl,hb⟩
 rw [HC.out]
 have HB:=Lib.hid hb
 clear hb
 by_cases h:c=0
 ·subst h
  have hsz:s.size≤256:=by
   have:=HC.out
   unfold aC at this
   split at this
   ·cases this
   have hl:s.data.toList.length=s.size:=Array.length_toList
   omega
  have hx:=vl w1 34 34
  go_wp2_with fail
  have hcell:=bn HB.out HM.out
  refine (Tryz.strings_ReplaceAll s ⟨#[34]⟩ ⟨#[34,34]⟩ m _ (by omega) ?c2 (by decide) ?c3).mono ?_
  case c2=>exact (World.cell?_alloc_lt _ _ _ (World.block_lt_of_cell? _ _ hcell)).trans hcell
  case c3 =>
   have:=Lib.countB_le ⟨#[34]⟩ (by decide) s.size s (Nat.le_refl _)
   show s.size+_ * 2≤_
   omega
  rintro e w2 ⟨rfl,hb⟩
  rw [show (⟨#[34]⟩:ByteArray).data.toList=[34] from rfl,show (⟨#[34,34]⟩:ByteArray).data.toList=[34,34] from rfl,oj]
  obtain ⟨R,hR⟩:=ex (s.data.toList.flatMap bS)
  rw [hR]
  have HR:=keep hR
  have HB2:=Lib.hid ((HB.out.alloc HB.out.size _).trans (hb.mono (HB.out.alloc HB.out.size _).size))
  have hRl:R.length≤512:=by
   rw [← hR]
   have:=jL s.data.toList
   have hl:s.data.toList.length=s.size:=Array.length_toList
   omega
  clear hR hb hx hcell
  go_wp2
  refine bodyPost_ret (v:=.tuple #[.string (((⟨#[34]⟩:ByteArray)++⟨R.toArray⟩)++⟨#[34]⟩),.int .i64 0]) (by simp [results,results67,go_sem]) rfl ⟨?_,HB2.out⟩
  rw [← HQ.out]
  unfold jK dr
  rw [if_pos HC.out,HR.out]
  congr 3
 have h1:(c != 0)=true:=by simp [h]
 go_wp2
 refine bodyPost_ret (v:=.tuple #[.string ⟨#[]⟩,.int .i64 c]) (by simp [results,results67,go_sem]) rfl ⟨?_,HB.out⟩
 rw [← HQ.out]
 unfold jK
 rw [if_neg (by rw [HC.out]; exact h)]
end
section
open Go.RowKit Go.Proofs.Tryz
attribute [local go_sem] Oper.semAt_some
end
