/- Plain: what dec.Parse makes of any text. No program stands here. What a strings.Builder's WriteString comes to, off the shelf's own laws. The contracts of glyph.Check and glyph.Quote. lex.name: whether a word may be a name. -/
import Derived.Test.YtfffihcadhfplaaGreatDoorQLexD
import Derived.Test.YtfffihcadhfplaaGreatDoorQShelf
import Derived.Shelf.Strings.BuilderF
import Derived.Test.YtfffihcadhfplaaGreatDoorQLexI
import Derived.Test.YtfffihcadhfplaaGreatDoorQLexP
import Derived.Lib.Replace
import Derived.Test.YtfffihcadhfplaaGreatDoorQLexC
namespace Go.Proofs.YtfffihcadhfplaaGreatDoor
open Go.RowKit
def unsgD (l:List UInt8):List UInt8:=if l.head?=some 45 then l.tail else l
def plcD:List UInt8→Option (List UInt8)
 | []=>some []
 | b::p=>if b=46∧p≠[]∧p.all isDig=true then some p else none
def zer5:List UInt8:=[48,48,48,48,48]
def upD (p:List UInt8):Bool:=decide (53≤((p++zer5).getD 4 0).toNat)
def magD (w p:List UInt8):Nat:=valD (w++(p++zer5).take 4)+if upD p then 1 else 0
def parD (l:List UInt8):Int×Int :=
 if (unsgD l).takeWhile isDig=[] then (0,4) else match plcD ((unsgD l).dropWhile isDig) with
 | none=>(0,4)
 | some p=>if magD ((unsgD l).takeWhile isDig) p≤mostN then ((if l.head?=some 45 then -(magD ((unsgD l).takeWhile isDig) p:Int) else magD ((unsgD l).takeWhile isDig) p),0) else (0,3)
theorem parD_none {l:List UInt8} (h:(unsgD l).takeWhile isDig=[]):parD l=(0,4):=if_pos h
theorem parD_bad {l:List UInt8} (h:plcD ((unsgD l).dropWhile isDig)=none):parD l=(0,4):=by
 unfold parD
 split
 ·rfl
 ·rw [h]
theorem parD_ok {l p:List UInt8} (h0:(unsgD l).takeWhile isDig≠[]) (h:plcD ((unsgD l).dropWhile isDig)=some p) :
  parD l=if magD ((unsgD l).takeWhile isDig) p≤mostN then ((if l.head?=some 45 then -(magD ((unsgD l).takeWhile isDig) p:Int) else magD ((unsgD l).takeWhile isDig) p),0) else (0,3):=by
 unfold parD
 rw [if_neg h0,h]
theorem plcD_dig {z p:List UInt8} (h:plcD z=some p):∀ b∈p,isDig b=true:=by
 cases z with
 | nil=>cases h; intro b hb; cases hb
 | cons b q =>
  by_cases g:b=46∧q≠[]∧q.all isDig=true
  ·have e:plcD (b::q)=some q:=if_pos g
   rw [e] at h
   cases h
   exact List.all_eq_true.1 g.2.2
  ·have e:plcD (b::q)=none:=if_neg g
   rw [e] at h; cases h
section
open Go.RowKit
theorem bld_write (B b:Nat) (bs:List Value) (s:ByteArray) (w:World) (h:Lib.IsBuilderF 160 5 B b bs w) (hlen:bs.length+s.size≤140737488355328) (hBw:B≤w.heap.size) :
  Calls Tryz.prog 125 #[.pointer (some ⟨b,0,none⟩),.string s] w fun e w'=>e=.returned (.tuple #[.int .i64 s.size,.nilIface])∧(Lib.BuilderAtF 160 5 B b (.pointer (some ⟨b,0,none⟩)) (bs++Lib.strCells s) w'∧Below B w w') :=
 Any.Builder_WriteString_f { Tryz.lays155 with } Tryz.Builder_Extra_155 B b bs s w h hlen hBw
def Bld (B b:Nat) (l:List UInt8) (w:World):Prop:=Lib.IsBuilderF 160 5 B b (Lib.byteCells l) w
theorem bld_at_below {T e:TypeId} {B b:Nat} {p:Value} {bs:List Value} {w w':World} (h:Lib.BuilderAtF T e B b p bs w) (hb:Below w.heap.size w w'):Lib.BuilderAtF T e B b p bs w':=by
 have hlt:=h.lt
 obtain ⟨hB,v,hv,hown,hne⟩:=h
 exact ⟨hB,v,(hb.block b hlt).trans hv,hown.kept (row:=none) ⟨hb.os,hb.tape,hb.output,hb.size,fun k hk _=>hb.block k hk⟩ (by cases hv:v.ownBlock <;> simp),hne⟩
theorem Bld.below {B b:Nat} {l:List UInt8} {w w':World} (h:Bld B b l w) (hb:Below w.heap.size w w'):Bld B b l w' :=
 h.elim (fun h=>.inl (bld_at_below h hb)) fun h=>.inr (bld_at_below h hb)
theorem Bld.new (w:World):Bld w.heap.size w.heap.size [] (w.alloc (.cells #[.pointer none,.slice none 0 0] 160)) :=
 .inl ⟨Nat.le_refl _,.slice none 0 0,Array.getElem?_push_size,World.ownsRowF_nil _ _ _ _,by simp [Value.ownBlock]⟩
theorem Bld.write {B b:Nat} {l:List UInt8} {w:World} (h:Bld B b l w) (s:ByteArray) (hl:l.length+s.size≤140737488355328) (hBw:B≤w.heap.size) :
  Calls Tryz.prog 125 #[.pointer (some ⟨b,0,none⟩),.string s] w fun e w'=>e=.returned (.tuple #[.int .i64 s.size,.nilIface])∧Bld B b (l++s.data.toList) w'∧Below B w w':=by
 refine (bld_write B b _ s w h (by simpa [Lib.byteCells] using hl) hBw).mono ?_
 rintro e w' ⟨h1,h2,h3⟩
 refine ⟨h1,.inr ?_,h3⟩
 have e1:Lib.byteCells (l++s.data.toList)=Lib.byteCells l++Lib.strCells s:=by simp [Lib.byteCells,Lib.strCells]
 rw [e1]
 exact h2
theorem Bld.text {B b:Nat} {l:List UInt8} {w:World} (h:Bld B b l w) (hBw:B≤w.heap.size) :
  Calls Tryz.prog 126 #[.pointer (some ⟨b,0,none⟩)] w fun e w'=>e=.returned (.string ⟨l.toArray⟩)∧Bld B b l w'∧Below B w w' :=
 Tryz.Builder_String_any_f B b l w h hBw
end
section
open Go.RowKit
theorem replK_quote:∀ (s:List UInt8) (k:Nat),s.count 34≤k→Lib.replaceK [34] [34,34] k s=s.flatMap quoteB
 | [],k,_=>by cases k <;> rfl
 | b::s,k,h=>by
  by_cases hb:b=34
  ·subst hb
   rw [List.count_cons_self] at h
   obtain ⟨k,rfl⟩:∃ n,k=n+1:=⟨k - 1,by omega⟩
   have hi:Lib.index (34::s) [34]=((0:Nat):Int):=by rw [Lib.index_one]; rfl
   rw [Lib.replaceK_hit _ _ _ _ 0 hi,List.flatMap_cons]
   have:=replK_quote s k (by omega)
   simp only [List.length_cons,List.length_nil,Nat.zero_add,List.drop_succ_cons,List.drop_zero,List.take_zero,List.nil_append]
   rw [this]
   rfl
  ·have hb':(b == 34)=false:=beq_eq_false_iff_ne.2 hb
   rw [List.count_cons_of_ne hb] at h
   have hq:(b::s).flatMap quoteB=b::s.flatMap quoteB:=by
    rw [List.flatMap_cons]
    unfold quoteB
    rw [if_neg hb]
    rfl
   rw [hq,← replK_quote s k h]
   cases k with
   | zero=>rfl
   | succ k =>
    have h1:Lib.index (b::s) [34]=if Lib.index s [34] == -1 then -1 else Lib.index s [34]+1:=by
     rw [Lib.index_one,Lib.index_one]
     conv=>lhs; unfold Lib.indexByte
     rw [hb']
     rfl
    have hge:=Lib.index_ge s [34]
    by_cases hm:Lib.index s [34]=-1
    ·have e1:Lib.index (b::s) [34]=-1:=by rw [h1,if_pos (beq_iff_eq.2 hm)]
     unfold Lib.replaceK
     rw [if_pos (beq_iff_eq.2 e1),if_pos (beq_iff_eq.2 hm)]
    ·have hm':¬ (Lib.index s [34] == -1)=true:=fun e=>hm (beq_iff_eq.1 e)
     obtain ⟨i,hi⟩:∃ i:Nat,Lib.index s [34]=i:=⟨(Lib.index s [34]).toNat,by omega⟩
     have e1:Lib.index (b::s) [34]=((i+1:Nat):Int):=by rw [h1,if_neg hm',hi]; rfl
     rw [Lib.replaceK_hit _ _ _ _ _ e1,Lib.replaceK_hit _ _ _ _ _ hi]
     simp
theorem repl_quote (s:List UInt8):Lib.replaceAll s [34] [34,34]=s.flatMap quoteB:=by
 unfold Lib.replaceAll Lib.replace
 rw [if_neg (by decide),Lib.replaceNum,if_pos (Or.inl (by decide)),replK_quote]
 rw [Lib.count_one]
 exact Nat.le_refl _
theorem quote_len2:∀ l:List UInt8,(l.flatMap quoteB).length≤2 * l.length
 | []=>by simp
 | b::l=>by
  have:=quote_len2 l
  have h2:(quoteB b).length≤2:=by unfold quoteB; split <;> simp
  rw [List.flatMap_cons,List.length_append,List.length_cons]
  omega
def checkT (l:List UInt8):Int:=if 256<l.length then 5 else if l.all plainB then 0 else 4
theorem glyph_Check (s:ByteArray) (w:World) (hs:s.size≤4611686018427387904) :
  Calls Tryz.prog 24 #[.string s] w fun e w'=>e=.returned (.int .i64 (checkT s.data.toList))∧Below w.heap.size w w':=by
 have hl:s.data.toList.length=s.size:=Array.length_toList
 obtain ⟨c,hc⟩:∃ c,checkT s.data.toList=c:=⟨_,rfl⟩
 rw [hc]
 unfold checkT at hc
 rw [hl] at hc
 have HC:=keep hc
 clear hc hl
 go_enter Tryz.func24,Tryz.ntmps24
 by_cases h:256<s.size
 ·have h1:decide ((256:Int)<(s.size:Int))=true:=decide_eq_true (by omega)
  go_wp2
  go_ret
  have:=HC.out
  rw [if_pos h] at this
  exact ⟨by rw [this]; rfl,Below.refl _ _⟩
 ·have h1:decide ((256:Int)<(s.size:Int))=false:=decide_eq_false (by omega)
  go_wp2_with fail
  refine (glyph_printable s _ hs).mono ?_
  rintro e w1 ⟨rfl,hb⟩
  obtain ⟨p,hp⟩:∃ p,s.data.toList.all plainB=p:=⟨_,rfl⟩
  rw [hp]
  have HP:=keep hp
  have HB:=Lib.hid hb
  clear hp hb
  cases p with
  | true =>
   go_wp2
   go_ret
   have:=HC.out
   rw [if_neg h,if_pos HP.out] at this
   exact ⟨by rw [this]; rfl,HB.out⟩
  | false =>
   go_wp2
   go_ret
   have:=HC.out
   rw [if_neg h,if_neg (by rw [HP.out]; decide)] at this
   exact ⟨by rw [this]; rfl,HB.out⟩
theorem str_two (W:World) (x y:Int) :
  (convert 67 9 (.slice (some ⟨W.heap.size,0,none⟩) 2 2)).run Tryz.prog (W.alloc (.cells #[.int .u8 x,.int .u8 y] 5))=.ok (.string ⟨#[UInt8.ofNat x.toNat,UInt8.ofNat y.toNat]⟩) (W.alloc (.cells #[.int .u8 x,.int .u8 y] 5)):=by
 rw [run_convert_bytes_string _ _ _ 5 _ _ _ Tryz.underlying67 Tryz.underlying5 Tryz.underlying9]
 rw [run_bytesToString _ _ 2 2 [x,y]]
 ·rfl
 ·simp [go_sem]
def quoteT (l:List UInt8):List UInt8:=if checkT l=0 then quoteS l else []
theorem glyph_Quote (s:ByteArray) (w:World) (hs:s.size≤4611686018427387904) (hm:∃ m,w.cell? ⟨1,0,none⟩=some (.int .i64 m)) :
  Calls Tryz.prog 138 #[.string s] w fun e w'=>e=.returned (.tuple #[.string ⟨(quoteT s.data.toList).toArray⟩,.int .i64 (checkT s.data.toList)])∧Below w.heap.size w w':=by
 obtain ⟨m,hm⟩:=hm
 have HM:=Lib.hid hm
 clear hm
 obtain ⟨c,hc⟩:∃ c,checkT s.data.toList=c:=⟨_,rfl⟩
 obtain ⟨q,hq⟩:∃ q,quoteT s.data.toList=q:=⟨_,rfl⟩
 have HC:=keep hc
 have HQ:=keep hq
 rw [hc,hq]
 clear hc hq
 go_enter Tryz.func138,Tryz.ntmps138
 go_wp2_with fail
 refine (glyph_Check s _ hs).mono ?_
 rintro e w1 ⟨rfl,hb⟩
 rw [HC.out]
 have HB:=Lib.hid hb
 clear hb
 by_cases h:c=0
 ·subst h
  have hsz:s.size≤256:=by
   have:=HC.out
   unfold checkT at this
   split at this
   ·cases this
   ·have hl:s.data.toList.length=s.size:=Array.length_toList
    omega
  have hx:=str_two w1 34 34
  go_wp2_with fail
  have hcell:=cell_step HB.out HM.out
  refine (Tryz.strings_ReplaceAll s ⟨#[34]⟩ ⟨#[34,34]⟩ m _ (by omega) ?c2 (by decide) ?c3).mono ?_
  case c2=>exact (World.cell?_alloc_lt _ _ _ (World.block_lt_of_cell? _ _ hcell)).trans hcell
  case c3 =>
   have:=Lib.countB_le ⟨#[34]⟩ (by decide) s.size s (Nat.le_refl _)
   show s.size+_ * 2≤_
   omega
  rintro e w2 ⟨rfl,hb⟩
  rw [show (⟨#[34]⟩:ByteArray).data.toList=[34] from rfl,show (⟨#[34,34]⟩:ByteArray).data.toList=[34,34] from rfl,repl_quote]
  obtain ⟨R,hR⟩:∃ R,s.data.toList.flatMap quoteB=R:=⟨_,rfl⟩
  rw [hR]
  have HR:=keep hR
  have HB2:=Lib.hid ((HB.out.alloc HB.out.size _).trans (hb.mono (HB.out.alloc HB.out.size _).size))
  have hRl:R.length≤512:=by
   rw [← hR]
   have:=quote_len2 s.data.toList
   have hl:s.data.toList.length=s.size:=Array.length_toList
   omega
  clear hR hb hx hcell
  go_wp2
  refine bodyPost_ret (v:=.tuple #[.string (((⟨#[34]⟩:ByteArray)++⟨R.toArray⟩)++⟨#[34]⟩),.int .i64 0]) (by simp [results,Tryz.results138,go_sem]) rfl ⟨?_,HB2.out⟩
  rw [← HQ.out]
  unfold quoteT quoteS
  rw [if_pos HC.out,HR.out]
  congr 3
 ·have h1:(c != 0)=true:=by simp [h]
  go_wp2
  refine bodyPost_ret (v:=.tuple #[.string ⟨#[]⟩,.int .i64 c]) (by simp [results,Tryz.results138,go_sem]) rfl ⟨?_,HB.out⟩
  rw [← HQ.out]
  unfold quoteT
  rw [if_neg (by rw [HC.out]; exact h)]
end
section
open Go.RowKit
attribute [local go_sem] Oper.semAt_some
end
