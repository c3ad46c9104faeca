/- What a strings.Builder's WriteString comes to, off the shelf's own laws. The contracts of glyph.Check and glyph.Quote. lex.name: whether a word may be a name. The contracts of dec.size, dec.decimal and dec.Format. -/
import Derived.Test.YthdmpajkacmkdaaGreatDoorGShelf
import Derived.Test.YthdmpajkacmkdaaGreatDoorGTg
import Derived.Shelf.Strings.BuilderF
import Derived.Test.YthdmpajkacmkdaaGreatDoorGLexI
import Derived.Test.YthdmpajkacmkdaaGreatDoorGLexP
import Derived.Lib.Replace
import Derived.Test.YthdmpajkacmkdaaGreatDoorGLexC
import Derived.IntWalk
import Derived.Lib.AppendStr
namespace Go.Proofs.YthdmpajkacmkdaaGreatDoor
section
open Go.RowKit Go.Proofs.Tryz
theorem sP (B b:Nat) (bs:List Value) (s:ByteArray) (w:World) (h:Lib.IsBuilderF 106 5 B b bs w) (hlen:bs.length+s.size≤140737488355328) (hBw:B≤w.heap.size) :
  Calls prog 80 #[.pointer (some ⟨b,0,none⟩),.string s] w fun e w'=>e=.returned (.tuple #[.int .i64 s.size,.nilIface])∧(Lib.BuilderAtF 106 5 B b (.pointer (some ⟨b,0,none⟩)) (bs++Lib.strCells s) w'∧Below B w w') :=
 Any.Builder_WriteString_f { Tryz.lays155 with } Tryz.Builder_Extra_155 B b bs s w h hlen hBw
def Bld (B b:Nat) (l:List UInt8) (w:World):Prop:=Lib.IsBuilderF 106 5 B b (Lib.byteCells l) w
theorem jm {T e:TypeId} {B b:Nat} {p:Value} {bs:List Value} {w w':World} (h:Lib.BuilderAtF T e B b p bs w) (hb:Below w.heap.size w w'):Lib.BuilderAtF T e B b p bs w':=by
 have hlt:=h.lt
 obtain ⟨hB,v,hv,hown,hne⟩:=h
 exact ⟨hB,v,(hb.block b hlt).trans hv,hown.kept (row:=none) ⟨hb.os,hb.tape,hb.output,hb.size,fun k hk _=>hb.block k hk⟩ (by cases hv:v.ownBlock <;> simp),hne⟩
theorem Bld.below {B b:Nat} {l:List UInt8} {w w':World} (h:Bld B b l w) (hb:Below w.heap.size w w'):Bld B b l w' :=
 h.elim (fun h=>.inl (jm h hb)) fun h=>.inr (jm h hb)
theorem Bld.new (w:World):Bld w.heap.size w.heap.size [] (w.alloc (.cells #[.pointer none,.slice none 0 0] 106)) :=
 .inl ⟨Nat.le_refl _,.slice none 0 0,Array.getElem?_push_size,World.ownsRowF_nil _ _ _ _,by simp [Value.ownBlock]⟩
theorem Bld.write {B b:Nat} {l:List UInt8} {w:World} (h:Bld B b l w) (s:ByteArray) (hl:l.length+s.size≤140737488355328) (hBw:B≤w.heap.size) :
  Calls prog 80 #[.pointer (some ⟨b,0,none⟩),.string s] w fun e w'=>e=.returned (.tuple #[.int .i64 s.size,.nilIface])∧Bld B b (l++s.data.toList) w'∧Below B w w':=by
 refine (sP B b _ s w h (by simpa [Lib.byteCells] using hl) hBw).mono ?_
 rintro e w' ⟨h1,h2,h3⟩
 refine ⟨h1,.inr ?_,h3⟩
 have e1:Lib.byteCells (l++s.data.toList)=Lib.byteCells l++Lib.strCells s:=by simp [Lib.byteCells,Lib.strCells]
 rw [e1]
 exact h2
theorem Bld.len {B b:Nat} {l:List UInt8} {w:World} (h:Bld B b l w) :
  Calls prog 89 #[.pointer (some ⟨b,0,none⟩)] w fun e w'=>e=.returned (.int .i64 l.length)∧w'=w:=by
 refine (Tryz.Builder_Len_f B b _ w h).mono ?_
 rintro e w' ⟨h1,h2⟩
 exact ⟨by rw [h1]; simp [Lib.byteCells],h2⟩
theorem Bld.text {B b:Nat} {l:List UInt8} {w:World} (h:Bld B b l w) (hBw:B≤w.heap.size) :
  Calls prog 81 #[.pointer (some ⟨b,0,none⟩)] w fun e w'=>e=.returned (.string ⟨l.toArray⟩)∧Bld B b l w'∧Below B w w' :=
 Tryz.Builder_String_any_f B b l w h hBw
end
section
open Go.RowKit Go.Proofs.Tryz
theorem gZ:∀ (s:List UInt8) (k:Nat),s.count 34≤k→Lib.replaceK [34] [34,34] k s=s.flatMap bG
 | [],k,_=>by cases k <;> rfl
 | b::s,k,h=>by
  by_cases hb:b=34
  ·subst hb
   rw [List.count_cons_self] at h
   obtain ⟨k,rfl⟩:∃ n,k=n+1:=⟨k - 1,by omega⟩
   have hi:Lib.index (34::s) [34]=((0:Nat):Int):=by rw [Lib.index_one]; rfl
   rw [Lib.replaceK_hit _ _ _ _ 0 hi,List.flatMap_cons]
   have:=gZ s k (by omega)
   simp only [List.length_cons,List.length_nil,Nat.zero_add,List.drop_succ_cons,List.drop_zero,List.take_zero,List.nil_append]
   rw [this]
   rfl
  have hb':(b == 34)=false:=beq_eq_false_iff_ne.2 hb
  rw [List.count_cons_of_ne hb] at h
  have hq:(b::s).flatMap bG=b::s.flatMap bG:=by
   rw [List.flatMap_cons]
   unfold bG
   rw [if_neg hb]
   rfl
  rw [hq,← gZ s k h]
  cases k with
  | zero=>rfl
  | succ k =>
   have h1:Lib.index (b::s) [34]=if Lib.index s [34] == -1 then -1 else Lib.index s [34]+1:=by
    rw [Lib.index_one,Lib.index_one]
    conv=>lhs; unfold Lib.indexByte
    rw [hb']
    rfl
   have hge:=Lib.index_ge s [34]
   by_cases hm:Lib.index s [34]=-1
   ·have e1:Lib.index (b::s) [34]=-1:=by rw [h1,if_pos (beq_iff_eq.2 hm)]
    unfold Lib.replaceK
    rw [if_pos (beq_iff_eq.2 e1),if_pos (beq_iff_eq.2 hm)]
   have hm':¬ (Lib.index s [34] == -1)=true:=fun e=>hm (beq_iff_eq.1 e)
   obtain ⟨i,hi⟩:∃ i:Nat,Lib.index s [34]=i:=⟨(Lib.index s [34]).toNat,by omega⟩
   have e1:Lib.index (b::s) [34]=((i+1:Nat):Int):=by rw [h1,if_neg hm',hi]; rfl
   rw [Lib.replaceK_hit _ _ _ _ _ e1,Lib.replaceK_hit _ _ _ _ _ hi]
   simp
theorem re (s:List UInt8):Lib.replaceAll s [34] [34,34]=s.flatMap bG:=by
 unfold Lib.replaceAll Lib.replace
 rw [if_neg (by decide),Lib.replaceNum,if_pos (Or.inl (by decide)),gZ]
 rw [Lib.count_one]
 exact Nat.le_refl _
theorem l3:∀ l:List UInt8,(l.flatMap bG).length≤2 * l.length
 | []=>by simp
 | b::l=>by
  have:=l3 l
  have h2:(bG b).length≤2:=by unfold bG; split <;> simp
  rw [List.flatMap_cons,List.length_append,List.length_cons]
  omega
def bm (l:List UInt8):Int:=if 256<l.length then 5 else if l.all aB then 0 else 4
theorem kN (s:ByteArray) (w:World) (hs:s.size≤4611686018427387904) :
  Calls prog 55 #[.string s] w fun e w'=>e=.returned (.int .i64 (bm s.data.toList))∧Below w.heap.size w w':=by
 have hl:s.data.toList.length=s.size:=Array.length_toList
 obtain ⟨c,hc⟩:=ex (bm s.data.toList)
 rw [hc]
 unfold bm at hc
 rw [hl] at hc
 have HC:=keep hc
 clear hc hl
 go_enter func55,ntmps55
 by_cases h:256<s.size
 ·have h1:decide ((256:Int)<(s.size:Int))=true:=decide_eq_true (by omega)
  go_wp2
  go_ret
  have:=HC.out
  rw [if_pos h] at this
  exact ⟨by rw [this]; rfl,Below.refl _ _⟩
 have h1:decide ((256:Int)<(s.size:Int))=false:=decide_eq_false (by omega)
 go_wp2_with fail
 refine (ej s _ hs).mono ?_
 rintro e w1 ⟨rfl,hb⟩
 obtain ⟨p,hp⟩:=ex (s.data.toList.all aB)
 rw [hp]
 have HP:=keep hp
 have HB:=Lib.hid hb
 clear hp hb
 cases p with
 | true =>
  go_wp2
  go_ret
  have:=HC.out
  rw [if_neg h,if_pos HP.out] at this
  exact ⟨by rw [this]; rfl,HB.out⟩
 | false =>
  go_wp2
  go_ret
  have:=HC.out
  rw [if_neg h,if_neg (by rw [HP.out]; decide)] at this
  exact ⟨by rw [this]; rfl,HB.out⟩
theorem zh (W:World) (x y:Int) :
  (convert 32 9 (.slice (some ⟨W.heap.size,0,none⟩) 2 2)).run prog (W.alloc (.cells #[.int .u8 x,.int .u8 y] 5))=.ok (.string ⟨#[UInt8.ofNat x.toNat,UInt8.ofNat y.toNat]⟩) (W.alloc (.cells #[.int .u8 x,.int .u8 y] 5)):=by
 rw [run_convert_bytes_string _ _ _ 5 _ _ _ underlying32 underlying5 underlying9]
 rw [run_bytesToString _ _ 2 2 [x,y]]
 ·rfl
 simp [go_sem]
def eP (l:List UInt8):List UInt8:=if bm l=0 then cY l else []
theorem oD (s:ByteArray) (w:World) (hs:s.size≤4611686018427387904) (hm:∃ m,w.cell? ⟨1,0,none⟩=some (.int .i64 m)) :
  Calls prog 28 #[.string s] w fun e w'=>e=.returned (.tuple #[.string ⟨(eP s.data.toList).toArray⟩,.int .i64 (bm s.data.toList)])∧Below w.heap.size w w':=by
 obtain ⟨m,hm⟩:=hm
 have HM:=Lib.hid hm
 clear hm
 obtain ⟨c,hc⟩:=ex (bm s.data.toList)
 obtain ⟨q,hq⟩:=ex (eP s.data.toList)
 have HC:=keep hc
 have HQ:=keep hq
 rw [hc,hq]
 clear hc hq
 go_enter func28,ntmps28
 go_wp2_with fail
 refine (kN s _ hs).mono ?_
 rintro e w1 ⟨rfl,hb⟩
 rw [HC.out]
 have HB:=Lib.hid hb
 clear hb
 by_cases h:c=0
 ·subst h
  have hsz:s.size≤256:=by
   have:=HC.out
   unfold bm at this
   split at this
   ·cases this
   have hl:s.data.toList.length=s.size:=Array.length_toList
   omega
  have hx:=zh w1 34 34
  go_wp2_with fail
  have hcell:=aD HB.out HM.out
  refine (Tryz.strings_ReplaceAll s ⟨#[34]⟩ ⟨#[34,34]⟩ m _ (by omega) ?c2 (by decide) ?c3).mono ?_
  case c2=>exact (World.cell?_alloc_lt _ _ _ (World.block_lt_of_cell? _ _ hcell)).trans hcell
  case c3 =>
   have:=Lib.countB_le ⟨#[34]⟩ (by decide) s.size s (Nat.le_refl _)
   show s.size+_ * 2≤_
   omega
  rintro e w2 ⟨rfl,hb⟩
  rw [show (⟨#[34]⟩:ByteArray).data.toList=[34] from rfl,show (⟨#[34,34]⟩:ByteArray).data.toList=[34,34] from rfl,re]
  obtain ⟨R,hR⟩:=ex (s.data.toList.flatMap bG)
  rw [hR]
  have HR:=keep hR
  have HB2:=Lib.hid ((HB.out.alloc HB.out.size _).trans (hb.mono (HB.out.alloc HB.out.size _).size))
  have hRl:R.length≤512:=by
   rw [← hR]
   have:=l3 s.data.toList
   have hl:s.data.toList.length=s.size:=Array.length_toList
   omega
  clear hR hb hx hcell
  go_wp2
  refine bodyPost_ret (v:=.tuple #[.string (((⟨#[34]⟩:ByteArray)++⟨R.toArray⟩)++⟨#[34]⟩),.int .i64 0]) (by simp [results,results28,go_sem]) rfl ⟨?_,HB2.out⟩
  rw [← HQ.out]
  unfold eP cY
  rw [if_pos HC.out,HR.out]
  congr 3
 have h1:(c != 0)=true:=by simp [h]
 go_wp2
 refine bodyPost_ret (v:=.tuple #[.string ⟨#[]⟩,.int .i64 c]) (by simp [results,results28,go_sem]) rfl ⟨?_,HB.out⟩
 rw [← HQ.out]
 unfold eP
 rw [if_neg (by rw [HC.out]; exact h)]
end
section
open Go.RowKit Go.Proofs.Tryz
attribute [local go_sem] Oper.semAt_some
end
set_option maxRecDepth 100000
set_option maxHeartbeats 4000000
open Go.RowKit Go.Proofs.Tryz
open Go.Lib (decDigits)
theorem uK (a:Int) (w:World) (h1 : -9223372036854775808≤a) (h2:a≤9223372036854775807) :
  Calls prog 53 #[.int .i64 a] w fun e w'=>e=.returned (.int .u64 (a.natAbs:Nat))∧w'=w:=by
 by_cases ha:a<0
 ·have e1:IntKind.i64.wrap (a+1)=a+1:=Go.IntWalk.i64_in _ (by omega)
  have e2:IntKind.i64.wrap (-(a+1))=-(a+1):=Go.IntWalk.i64_in _ (by omega)
  have e3:IntKind.u64.wrap (-(a+1))=-(a+1):=Go.IntWalk.u64_in _ (by omega)
  have e4:IntKind.u64.wrap (-(a+1)+1)=(a.natAbs:Int):=by rw [Go.IntWalk.u64_in _ (by omega)]; omega
  go_enter func53,ntmps53
  go_wp2_with fail
  go_ret
  exact ⟨rfl,rfl⟩
 have e3:IntKind.u64.wrap a=(a.natAbs:Int):=by rw [Go.IntWalk.u64_in _ (by omega)]; omega
 go_enter func53,ntmps53
 go_wp2_with fail
 go_ret
 exact ⟨rfl,rfl⟩
theorem dx (n:Nat) (h:n / 10≠0):decDigits n=decDigits (n / 10)++[UInt8.ofNat (48+n % 10)]:=by
 rw [decDigits,dif_neg (by omega)]
theorem fe (n:Nat) (h:n / 10=0):decDigits n=[UInt8.ofNat (48+n % 10)]:=by
 rw [decDigits,dif_pos (by omega),Nat.mod_eq_of_lt (by omega)]
theorem fb (N:Nat) (w:World) (h:N<18446744073709551616) :
  Calls prog 54 #[.int .u64 (N:Int)] w fun e w'=>e=.returned (.string ⟨(decDigits N).toArray⟩)∧Below w.heap.size w w':=by
 have H1:=Lib.hid ((Ok.start w).var w.heap.size 124 (List.replicate 20 (.int .u8 0)) rfl)
 go_enter func54,ntmps54
 go_wp2_with fail
 go_loopw [0,4] (fun nv av wr=>∃ (n at_:Nat) (cs:List Value) (suf:List UInt8),nv=.int .u64 (n:Int)∧av=.int .i64 (at_:Int)∧at_≤20∧n<10 ^ at_∧n<18446744073709551616∧cs.length=20∧(n≠0∨at_=20)∧bh (suf.length=20 - at_∧(∀ j,j<suf.length→cs[at_+j]?=some (.int .u8 ((suf[j]?.getD 0).toNat:Int)))∧decDigits N=decDigits n++suf) ∧
  Hid (Ok w [ah w.heap.size 124 cs] wr)) (fun nv _ _=>(intOf nv).toNat)
 case atStart=>exact ⟨N,20,List.replicate 20 (.int .u8 0),[],rfl,rfl,by omega,by omega,h,rfl,.inr rfl,keep ⟨rfl,by simp,by simp⟩,H1⟩
 case round =>
  obtain ⟨n,at_,cs,suf,rfl,rfl,hat,hp,hn,hcs,h0,HK,HR⟩:=hrel
  obtain ⟨wp,rfl⟩:∃ wp:World,wp=wr:=⟨_,rfl⟩
  have hat1:1≤at_:=by
   rcases Nat.eq_zero_or_pos at_ with h9 | h9
   ·subst h9; simp at hp; omega
   exact h9
  obtain ⟨q,rfl⟩:∃ q,at_=q+1:=⟨at_ - 1,by omega⟩
  have hblk:=HR.out.get (ah w.heap.size 124 cs) (by simp)
  have hbw:w.heap.size<wp.heap.size:=Blk.lt hblk
  obtain ⟨old,hold⟩:∃ old,cs[q]?=some old:=⟨_,List.getElem?_eq_getElem (by omega)⟩
  have hcell:wp.cell? ⟨w.heap.size,q,none⟩=some old:=by rw [Blk.cell hblk]; simpa using hold
  have hfz:wp.frozen? ⟨w.heap.size,q,none⟩=false:=Blk.frozen hblk q
  have hwq:IntKind.i64.wrap (q:Int)=(q:Int):=Go.IntWalk.i64_in _ (by omega)
  have hq20:(q:Int)<20:=by omega
  obtain ⟨hk1,hk2,hk3⟩:=HK.out
  have hbyte:(UInt8.ofNat (48+n % 10)).toNat=48+n % 10:=by rw [UInt8.toNat_ofNat']; omega
  have HW2:=Lib.hid (HR.out.set_ (i:=q) (u:=.int .u8 (48+(n:Int) % 10)) (Nat.le_refl _) (by simp))
  have HK2:=keep (show (UInt8.ofNat (48+n % 10)::suf).length=20 - q∧(∀ j,j<(UInt8.ofNat (48+n % 10)::suf).length→(cs.set q (.int .u8 (48+(n:Int) % 10)))[q+j]?=some (.int .u8 ((((UInt8.ofNat (48+n % 10)::suf)[j]?.getD 0).toNat:Nat):Int))) from by
   refine ⟨by rw [List.length_cons,hk1]; omega,fun j hj => ?_⟩
   cases j with
   | zero =>
    rw [Nat.add_zero,List.getElem?_set_self (by omega)]
    simp only [List.getElem?_cons_zero,Option.getD_some,hbyte]
    congr 2
   | succ j =>
    rw [List.getElem?_set_ne (by omega),show q+(j+1)=q+1+j by omega,hk2 j (by simpa using hj)]
    simp)
  clear hblk hold hk2
  by_cases hz:n / 10=0
  ·have hzb:((n:Int) / 10 == 0)=true:=by rw [beq_iff_eq]; omega
   have HD:=keep (show decDigits N=UInt8.ofNat (48+n % 10)::suf by rw [hk3,fe n hz]; rfl)
   have hsl:∀ W:World,(Instr.sliceAt 124 (.pointer (some ⟨w.heap.size,0,none⟩)) (some (.int .i64 (q:Int))) none none).run prog W=.ok (.slice (some ⟨w.heap.size,q,none⟩) (20 - q) (20 - q)) W:=by
    intro W
    have harr:prog.arrayLen 124=20:=by kernel_rfl
    have hsz:(sizeOf (prog.elem 124)).run prog W=.ok 1 W:=by kernel_rfl
    rw [run_sliceAt_array_l W _ _ (by kernel_rfl) .i64 (q:Int) (by omega) (by rw [harr]; omega),hsz,harr]
    simp only [Result.andThen,slicedAt,Int.toNat_natCast,Nat.mul_one]
    rw [if_neg (by omega)]
    congr 3
    unfold Addr.add
    split <;> simp_all
   have hcv:(convert 32 9 (.slice (some ⟨w.heap.size,q,none⟩) (20 - q) (20 - q))).run prog (wp.setCell ⟨w.heap.size,q,none⟩ (.int .u8 (48+(n:Int) % 10)))=.ok (.string ⟨(decDigits N).toArray⟩) (wp.setCell ⟨w.heap.size,q,none⟩ (.int .u8 (48+(n:Int) % 10))):=by
    have hl:(decDigits N).length=20 - q:=by rw [HD.out]; exact HK2.out.1
    rw [show (20 - q)=(decDigits N).length from hl.symm]
    refine run_convert_bytes_back _ 32 9 5 ⟨w.heap.size,q,none⟩ _ (decDigits N) underlying32 underlying5 underlying9 fun j hj => ?_
    have hb2:=HW2.out.get (ah w.heap.size 124 (cs.set q (.int .u8 (48+(n:Int) % 10)))) (by simp)
    have h9:=HK2.out.2 j (by rw [← HD.out]; exact hj)
    rw [show (Addr.add ⟨w.heap.size,q,none⟩ j)=⟨w.heap.size,q+j,none⟩ by unfold Addr.add; split <;> simp_all,Blk.cell hb2]
    simp only [List.getElem?_toArray]
    rw [h9]
    simp only [← HD.out,List.getElem?_eq_getElem hj,Option.getD_some]
   clear hk1 hk3 hbyte hz HK
   go_wp2_with fail
   go_ret
   exact ⟨rfl,HW2.out.bel⟩
  have hzb:((n:Int) / 10 == 0)=false:=by rw [beq_eq_false_iff_ne]; omega
  have HD:=keep (show decDigits N=decDigits (n / 10)++(UInt8.ofNat (48+n % 10)::suf) by rw [hk3,dx n hz,List.append_assoc]; rfl)
  have hpq:n / 10<10 ^ q:=by rw [Nat.pow_succ] at hp; omega
  clear hk1 hk3 hbyte HK
  go_wp2_with fail
  go_roundw
  case rel=>exact ⟨n / 10,q,cs.set q (.int .u8 (48+(n:Int) % 10)),UInt8.ofNat (48+n % 10)::suf,by simp,rfl,by omega,hpq,by omega,by simpa using hcs,.inl hz,keep ⟨HK2.out.1,HK2.out.2,HD.out⟩,HW2⟩
  case measure=>simp [intOf]; omega
theorem kz (l:List UInt8):cG (l++[48])=cG l:=by simp [cG]
theorem ky (l:List UInt8) (b:UInt8) (h:b≠48):cG (l++[b])=l++[b]:=by simp [cG,h]
theorem oz (b:Nat) (h:b<10000):decDigits (10000+b)=[49,UInt8.ofNat (48+b / 1000),UInt8.ofNat (48+b / 100 % 10),UInt8.ofNat (48+b / 10 % 10),UInt8.ofNat (48+b % 10)]:=by
 rw [dx _ (by omega),dx _ (by omega),dx _ (by omega),dx _ (by omega),fe _ (by omega)]
 simp only [List.cons_append,List.nil_append]
 have e1:48+(10000+b) / 10 / 10 / 10 / 10 % 10=49:=by omega
 have e2:48+(10000+b) / 10 / 10 / 10 % 10=48+b / 1000:=by omega
 have e3:48+(10000+b) / 10 / 10 % 10=48+b / 100 % 10:=by omega
 have e4:48+(10000+b) / 10 % 10=48+b / 10 % 10:=by omega
 have e5:48+(10000+b) % 10=48+b % 10:=by omega
 rw [e1,e2,e3,e4,e5]
 rfl
theorem gL (b:Nat) (h:b<10000) (h0:b≠0):(decDigits (10000+b)).length=5∧∃ x∈(decDigits (10000+b)).drop 1,x≠48:=by
 rw [oz b h]
 refine ⟨rfl,Classical.byContradiction fun hn => ?_⟩
 have key:∀ d:Nat,d<10→UInt8.ofNat (48+d)=48→d=0:=by
  intro d hd e
  have:=congrArg UInt8.toNat e
  rw [UInt8.toNat_ofNat'] at this
  have h48:(48:UInt8).toNat=48:=rfl
  omega
 have hall:∀ x∈[UInt8.ofNat (48+b / 1000),UInt8.ofNat (48+b / 100 % 10),UInt8.ofNat (48+b / 10 % 10),UInt8.ofNat (48+b % 10)],x=48:=fun x hx=>Classical.byContradiction fun hne=>hn ⟨x,hx,hne⟩
 have k1:=key _ (by omega) (hall (UInt8.ofNat (48+b / 1000)) (by simp))
 have k2:=key _ (by omega) (hall (UInt8.ofNat (48+b / 100 % 10)) (by simp))
 have k3:=key _ (by omega) (hall (UInt8.ofNat (48+b / 10 % 10)) (by simp))
 have k4:=key _ (by omega) (hall (UInt8.ofNat (48+b % 10)) (by simp))
 omega
theorem eD (n:Nat) (h:n<18446744073709551616):(decDigits n).length≤20:=by
 have key:∀ (k n:Nat),n<10 ^ (k+1)→(decDigits n).length≤k+1:=by
  intro k
  induction k with
  | zero=>intro n hn; rw [fe n (by omega)]; simp
  | succ k ih =>
   intro n hn
   by_cases hz:n / 10=0
   ·rw [fe n hz]; simp
   rw [dx n hz,List.length_append]
   have:=ih (n / 10) (by rw [Nat.pow_succ] at hn; omega)
   simp
   exact this
 exact key 19 n (by omega)
theorem ai.grew {w0 w w':World} {l m:List UInt8} {v v':Value} (h:ai w0 [] 5 1 v l.length (au l) w) (hown:w'.ownsRow w0.heap.size 5 1 v' (l.length+m.length) (au l++au m)) (hg:w.grownBy w' v.ownBlock):ai w0 [] 5 1 v' (l++m).length (au (l++m)) w' :=
 ⟨⟨h.ok.bel.grown hg h.ok.bel.size (fun k hk=>(h.own.lt k hk).1),by simp⟩,by rw [List.length_append,show au (l++m)=au l++au m by simp [au]]; exact hown,by simp⟩
theorem qh (a:Int) (w:World) (h1 : -9223372036854775808≤a) (h2:a≤9223372036854775807) :
  Calls prog 27 #[.int .i64 a] w fun e w'=>e=.returned (.string ⟨(eK a).toArray⟩)∧Below w.heap.size w w':=by
 obtain ⟨i0,hi,hz0,hz1,hz2⟩:=info_parts lx
 have HS:=keep (uK a w h1 h2)
 obtain ⟨N,hN⟩:=ex (a.natAbs)
 rw [hN] at HS
 have hN2:N≤9223372036854775808:=by omega
 obtain ⟨A,hA⟩:=ex (N / 10000)
 obtain ⟨B,hB⟩:=ex (N % 10000)
 have hAi:(N:Int) / 10000=(A:Int):=by omega
 have hBi:(N:Int) % 10000=(B:Int):=by omega
 have HV:=keep (show eK a=(if a<0 then [45] else [])++decDigits A++if B=0 then [] else 46::cG ((decDigits (10000+B)).drop 1) by unfold eK; rw [hN,hA,hB])
 have hA2:A<18446744073709551616:=by omega
 have hB2:B<10000:=by omega
 clear hN hA hB
 have H0:=Lib.hid (ai.start (Ok.start w) 5 1)
 go_enter func27,ntmps27
 go_wp2_with fail
 refine HS.out.mono ?_
 rintro e w1 ⟨rfl,hw⟩
 obtain rfl:w=w1:=hw.symm
 clear HS
 by_cases ha:a<0
 ·go_wp2_with (at_builtin; refine wpList_append_lies _ rfl _ _ _ rfl w.heap.size 5 i0 _ 1 1 underlying32 hi hz0 hz1 hz2 rfl (by omega) _ _ _ rfl (H0.out.own.alloc _) ⟨w.heap.size,0,none⟩ 1 1 [.int .u8 45] rfl rfl (World.news_of_block (cs:=#[.int .u8 45]) (t:=5) (fr:=(0,0)) (heap_alloc_new _ _)) (by intro u hu; simp at hu; rcases hu with rfl; rfl) (by omega) (by unfold maxLen; omega) (by omega) (by simp) _ rfl ?_; intro g2 cap2 w2 hown2 hgrow2 hat2 hlt2)
  have H1:=Lib.hid (show ai w [] 5 1 (.slice (some ⟨g2,0,none⟩) 1 cap2) ([45]:List UInt8).length (au [45]) w2 from (H0.out.alloc_obj _).appended hown2 hgrow2 hat2)
  clear hown2 hgrow2 hat2 hlt2 H0
  go_wp2_with fail
  refine (fb A _ hA2).mono ?_
  rintro e w3 ⟨rfl,hb⟩
  have H2:=Lib.hid (H1.out.below hb)
  have hdl:=Go.Lib.decDigits_length A
  have hdn:(decDigits A).length≤20:=eD A hA2
  clear hb H1 hdl
  obtain ⟨DA,hDA⟩:=ex (decDigits A)
  rw [hDA] at hdn ⊢
  have HDA:=keep hDA
  clear hDA
  go_wp2_with (at_builtin; refine Lib.wpList_append_own_string _ rfl _ _ 32 9 rfl w.heap.size 5 i0 underlying32 underlying9 hi hz0 hz1 hz2 _ _ _ rfl H2.out.own _ rfl ?c3 ?c4 ?c5 ?_)
  case c3=>unfold maxLen; show _+DA.length≤_; simp; omega
  case c4=>show _+DA.length≤_; simp; omega
  case c5=>exact H2.out.ok.bel.size
  intro v4 w4 hown hgrow _
  have H4:=Lib.hid (H2.out.grew (m:=DA) (by have h9:=hown; simpa [au,Lib.strCells] using h9) hgrow)
  obtain ⟨v4a,v4c,rfl⟩:=aQ hown
  clear hown hgrow H2
  obtain ⟨P,hP⟩:=ex ([45]++DA)
  have hPl:P.length≤21:=by rw [← hP,List.length_append]; simp; omega
  have HP:=keep hP
  rw [hP] at H4
  clear hP
  have hv4:([45]++DA).length=P.length:=by rw [HP.out]
  by_cases hB0:B=0
  ·have hB0b:((B:Int) == 0)=true:=by rw [hB0]; rfl
   have hcv:=dT H4.out.own
   have HE:=keep (show eK a=P by rw [HV.out,if_pos hB0,List.append_nil,HDA.out,if_pos ha,HP.out])
   clear hB0
   go_wp2_with fail
   go_ret
   exact ⟨by rw [HE.out]; rfl,H4.out.ok.bel⟩
  have hB0b:((B:Int) == 0)=false:=by rw [beq_eq_false_iff_ne]; omega
  obtain ⟨hfd,hfx⟩:=gL B hB2 hB0
  obtain ⟨E,hE⟩:=ex (10000+B)
  have HE:=keep (show eK a=P++46::cG ((decDigits E).drop 1) by rw [HV.out,if_neg hB0,HDA.out,if_pos ha,HP.out,hE])
  have hEi:(10000:Int)+(B:Int)=(E:Int):=by omega
  have hE2:E<18446744073709551616:=by omega
  rw [hE] at hfd hfx
  have HFX:=keep hfx
  clear hE hB0 hfx
  go_wp2_with fail
  refine cMg (fb E _ hE2) (fun _=>H4.out.below) fun w5 H5=>?_
  clear H4
  obtain ⟨DE,hDE⟩:=ex (decDigits E)
  rw [hDE] at hfd HFX HE ⊢
  clear hDE
  go_wp2_with fail
  have HF0:=keep (show (({ data:=DE.toArray }:ByteArray).extract 1 5).data.toList=DE.drop 1 by rw [Lib.extract_data]; exact List.take_of_length_le (by simp; omega))
  have hF0s:(({ data:=DE.toArray }:ByteArray).extract 1 5).size≤4:=by simp only [ByteArray.size_extract]; omega
  obtain ⟨TR,hTR⟩:=ex (cG (DE.drop 1))
  rw [hTR] at HE
  have HTR:=keep hTR
  clear hTR
  go_loopw [6] (fun fv wr=>∃ F:ByteArray,fv=.string F∧F.size≤4∧bh (cG F.data.toList=TR∧∃ x∈F.data.toList,x≠48)∧wr=w5) (fun fv _=>match fv with | .string s=>s.size | _=>0)
  case atStart=>exact ⟨_,rfl,hF0s,keep ⟨by rw [HF0.out]; exact HTR.out,by rw [HF0.out]; exact HFX.out⟩,rfl⟩
  case round =>
   clear HF0 hF0s
   obtain ⟨F,rfl,hFs,HK,hwr⟩:=hrel
   obtain rfl:w5=wr:=hwr.symm
   have hne:0<F.size:=by
    obtain ⟨_,x,hx,_⟩:=HK.out
    have:=List.length_pos_of_mem hx
    rwa [Array.length_toList] at this
   obtain ⟨cb,hcb⟩:=ex (F[F.size - 1]'(by omega))
   obtain ⟨cc,hcc⟩:∃ cc:Nat,cb.toNat=cc:=⟨_,rfl⟩
   have hix : ∀ h,((F[F.size - 1]'h).toNat : Int) = (cc : Int):=fun _ => by rw [← hcc,← hcb]
   have HSP:=keep (show F.data.toList=(F.extract 0 (F.size - 1)).data.toList++[cb] by
    rw [Lib.extract_data,List.drop_zero,Nat.sub_zero]
    have hl:F.data.toList.length=F.size:=Array.length_toList
    have h9 : F.data.toList[F.size - 1]'(by rw [hl]; omega) = cb:=hcb
    rw [← h9,← List.take_succ_eq_append_getElem,show F.size - 1+1=F.data.toList.length by rw [hl]; omega,List.take_length])
   have hi1:IntKind.i64.wrap ((F.size:Int) - 1)=(F.size:Int) - 1:=Go.IntWalk.i64_in _ (by omega)
   have hi2:((F.size:Int) - 1).toNat=F.size - 1:=by omega
   have hi3:(F.size:Int) - 1<(F.size:Int):=by omega
   have hi4:(0:Int)≤(F.size:Int) - 1:=by omega
   by_cases hq:cc=48
   ·have hcb48:cb=48:=UInt8.toNat_inj.1 (by rw [hcc,hq]; rfl)
    have HK2:=keep (show cG (F.extract 0 (F.size - 1)).data.toList=TR∧∃ x∈(F.extract 0 (F.size - 1)).data.toList,x≠48 by
     obtain ⟨k1,x,hx,hx2⟩:=HK.out
     rw [HSP.out,hcb48,kz] at k1
     rw [HSP.out,hcb48] at hx
     refine ⟨k1,x,?_,hx2⟩
     rcases List.mem_append.1 hx with h | h
     ·exact h
     simp at h; exact absurd h hx2)
    have hqb:((cc:Int) == 48)=true:=by rw [hq]; rfl
    clear hcb hcc hq hcb48 HK
    go_wp2_with fail
    go_roundw
    case rel=>exact ⟨F.extract 0 (F.size - 1),by first | rfl | (congr 1; congr 1),by simp only [ByteArray.size_extract]; omega,HK2,by first | trivial | rfl⟩
    case measure=>simp only [ByteArray.size_extract]; omega
   have hqb:((cc:Int) == 48)=false:=by rw [beq_eq_false_iff_ne]; omega
   have HT2:=keep (show TR=F.data.toList by
    obtain ⟨k1,_⟩:=HK.out
    have hcb48:cb≠48:=by rintro rfl; exact hq (by rw [← hcc]; rfl)
    rw [← k1]
    conv=>lhs; rw [HSP.out]
    rw [ky _ _ hcb48,← HSP.out])
   clear hcb hcc hq HK HSP
   go_wp2_with (at_builtin; first | (refine wpList_append_lies _ rfl _ _ _ rfl w.heap.size 5 i0 _ 1 1 underlying32 hi hz0 hz1 hz2 rfl (by omega) _ _ _ rfl (H5.out.own.alloc _) ⟨w5.heap.size,0,none⟩ 1 1 [.int .u8 46] rfl rfl (World.news_of_block (cs:=#[.int .u8 46]) (t:=5) (fr:=(0,0)) (heap_alloc_new _ _)) (by intro u hu; simp at hu; rcases hu with rfl; rfl) (by omega) (by unfold maxLen; omega) (by omega) (by have:=H5.out.ok.bel.size; simp; omega) _ rfl ?_; intro g6 cap6 w6 hown6 hgrow6 hat6 hlt6) | (refine Lib.wpList_append_own_string _ rfl _ _ 32 9 rfl w.heap.size 5 i0 underlying32 underlying9 hi hz0 hz1 hz2 _ _ _ rfl hown6 _ rfl ?c3 ?c4 ?c5 ?_))
   case c3=>unfold maxLen; omega
   case c4=>omega
   case c5=>have:=H5.out.ok.bel.size; have:=hgrow6.size; simp at this; omega
   intro v7 w7 hown7 hgrow7 _
   have H6:=Lib.hid (show ai w [] 5 1 (.slice (some ⟨g6,0,none⟩) (P.length+1) cap6) (P++[46]).length (au (P++[46])) w6 by
    have h9:=(H5.out.alloc_obj _).appended hown6 hgrow6 hat6
    simpa [au] using h9)
   have H7:=Lib.hid (H6.out.grew (m:=F.data.toList) (by have h9:=hown7; have hl:F.data.toList.length=F.size:=Array.length_toList; rw [hl]; simpa [au,Lib.strCells] using h9) hgrow7)
   have hcv:=dT H7.out.own
   have HFE:=keep (show eK a=P++46::F.data.toList by rw [HE.out,HT2.out])
   clear hown6 hgrow6 hat6 hlt6 hown7 hgrow7 H5 H6
   go_wp2_with fail
   go_ret
   exact ⟨by rw [HFE.out]; rfl,H7.out.ok.bel⟩
 have H1:=Lib.hid (show ai w [] 5 1 (.slice none 0 0) ([]:List UInt8).length (au []) w from H0.out)
 clear H0
 go_wp2_with fail
 refine (fb A _ hA2).mono ?_
 rintro e w3 ⟨rfl,hb⟩
 have H2:=Lib.hid (H1.out.below hb)
 have hdl:=Go.Lib.decDigits_length A
 have hdn:(decDigits A).length≤20:=eD A hA2
 clear hb H1 hdl
 obtain ⟨DA,hDA⟩:=ex (decDigits A)
 rw [hDA] at hdn ⊢
 have HDA:=keep hDA
 clear hDA
 go_wp2_with (at_builtin; refine Lib.wpList_append_own_string _ rfl _ _ 32 9 rfl w.heap.size 5 i0 underlying32 underlying9 hi hz0 hz1 hz2 _ _ _ rfl H2.out.own _ rfl ?c3 ?c4 ?c5 ?_)
 case c3=>unfold maxLen; show _+DA.length≤_; simp; omega
 case c4=>show _+DA.length≤_; simp; omega
 case c5=>exact H2.out.ok.bel.size
 intro v4 w4 hown hgrow _
 have H4:=Lib.hid (H2.out.grew (m:=DA) (by have h9:=hown; simpa [au,Lib.strCells] using h9) hgrow)
 obtain ⟨v4a,v4c,rfl⟩:=aQ hown
 clear hown hgrow H2
 obtain ⟨P,hP⟩:=ex ([]++DA)
 have hPl:P.length≤21:=by rw [← hP,List.length_append]; simp; omega
 have HP:=keep hP
 rw [hP] at H4
 clear hP
 have hv4:([]++DA).length=P.length:=by rw [HP.out]
 by_cases hB0:B=0
 ·have hB0b:((B:Int) == 0)=true:=by rw [hB0]; rfl
  have hcv:=dT H4.out.own
  have HE:=keep (show eK a=P by rw [HV.out,if_pos hB0,List.append_nil,HDA.out,if_neg (by omega),HP.out])
  clear hB0
  go_wp2_with fail
  go_ret
  exact ⟨by rw [HE.out]; rfl,H4.out.ok.bel⟩
 have hB0b:((B:Int) == 0)=false:=by rw [beq_eq_false_iff_ne]; omega
 obtain ⟨hfd,hfx⟩:=gL B hB2 hB0
 obtain ⟨E,hE⟩:=ex (10000+B)
 have HE:=keep (show eK a=P++46::cG ((decDigits E).drop 1) by rw [HV.out,if_neg hB0,HDA.out,if_neg (by omega),HP.out,hE])
 have hEi:(10000:Int)+(B:Int)=(E:Int):=by omega
 have hE2:E<18446744073709551616:=by omega
 rw [hE] at hfd hfx
 have HFX:=keep hfx
 clear hE hB0 hfx
 go_wp2_with fail
 refine cMg (fb E _ hE2) (fun _=>H4.out.below) fun w5 H5=>?_
 clear H4
 obtain ⟨DE,hDE⟩:=ex (decDigits E)
 rw [hDE] at hfd HFX HE ⊢
 clear hDE
 go_wp2_with fail
 have HF0:=keep (show (({ data:=DE.toArray }:ByteArray).extract 1 5).data.toList=DE.drop 1 by rw [Lib.extract_data]; exact List.take_of_length_le (by simp; omega))
 have hF0s:(({ data:=DE.toArray }:ByteArray).extract 1 5).size≤4:=by simp only [ByteArray.size_extract]; omega
 obtain ⟨TR,hTR⟩:=ex (cG (DE.drop 1))
 rw [hTR] at HE
 have HTR:=keep hTR
 clear hTR
 go_loopw [6] (fun fv wr=>∃ F:ByteArray,fv=.string F∧F.size≤4∧bh (cG F.data.toList=TR∧∃ x∈F.data.toList,x≠48)∧wr=w5) (fun fv _=>match fv with | .string s=>s.size | _=>0)
 case atStart=>exact ⟨_,rfl,hF0s,keep ⟨by rw [HF0.out]; exact HTR.out,by rw [HF0.out]; exact HFX.out⟩,rfl⟩
 case round =>
  clear HF0 hF0s
  obtain ⟨F,rfl,hFs,HK,hwr⟩:=hrel
  obtain rfl:w5=wr:=hwr.symm
  have hne:0<F.size:=by
   obtain ⟨_,x,hx,_⟩:=HK.out
   have:=List.length_pos_of_mem hx
   rwa [Array.length_toList] at this
  obtain ⟨cb,hcb⟩:=ex (F[F.size - 1]'(by omega))
  obtain ⟨cc,hcc⟩:∃ cc:Nat,cb.toNat=cc:=⟨_,rfl⟩
  have hix : ∀ h,((F[F.size - 1]'h).toNat : Int) = (cc : Int):=fun _ => by rw [← hcc,← hcb]
  have HSP:=keep (show F.data.toList=(F.extract 0 (F.size - 1)).data.toList++[cb] by
   rw [Lib.extract_data,List.drop_zero,Nat.sub_zero]
   have hl:F.data.toList.length=F.size:=Array.length_toList
   have h9 : F.data.toList[F.size - 1]'(by rw [hl]; omega) = cb:=hcb
   rw [← h9,← List.take_succ_eq_append_getElem,show F.size - 1+1=F.data.toList.length by rw [hl]; omega,List.take_length])
  have hi1:IntKind.i64.wrap ((F.size:Int) - 1)=(F.size:Int) - 1:=Go.IntWalk.i64_in _ (by omega)
  have hi2:((F.size:Int) - 1).toNat=F.size - 1:=by omega
  have hi3:(F.size:Int) - 1<(F.size:Int):=by omega
  have hi4:(0:Int)≤(F.size:Int) - 1:=by omega
  by_cases hq:cc=48
  ·have hcb48:cb=48:=UInt8.toNat_inj.1 (by rw [hcc,hq]; rfl)
   have HK2:=keep (show cG (F.extract 0 (F.size - 1)).data.toList=TR∧∃ x∈(F.extract 0 (F.size - 1)).data.toList,x≠48 by
    obtain ⟨k1,x,hx,hx2⟩:=HK.out
    rw [HSP.out,hcb48,kz] at k1
    rw [HSP.out,hcb48] at hx
    refine ⟨k1,x,?_,hx2⟩
    rcases List.mem_append.1 hx with h | h
    ·exact h
    simp at h; exact absurd h hx2)
   have hqb:((cc:Int) == 48)=true:=by rw [hq]; rfl
   clear hcb hcc hq hcb48 HK
   go_wp2_with fail
   go_roundw
   case rel=>exact ⟨F.extract 0 (F.size - 1),by first | rfl | (congr 1; congr 1),by simp only [ByteArray.size_extract]; omega,HK2,by first | trivial | rfl⟩
   case measure=>simp only [ByteArray.size_extract]; omega
  have hqb:((cc:Int) == 48)=false:=by rw [beq_eq_false_iff_ne]; omega
  have HT2:=keep (show TR=F.data.toList by
   obtain ⟨k1,_⟩:=HK.out
   have hcb48:cb≠48:=by rintro rfl; exact hq (by rw [← hcc]; rfl)
   rw [← k1]
   conv=>lhs; rw [HSP.out]
   rw [ky _ _ hcb48,← HSP.out])
  clear hcb hcc hq HK HSP
  go_wp2_with (at_builtin; first | (refine wpList_append_lies _ rfl _ _ _ rfl w.heap.size 5 i0 _ 1 1 underlying32 hi hz0 hz1 hz2 rfl (by omega) _ _ _ rfl (H5.out.own.alloc _) ⟨w5.heap.size,0,none⟩ 1 1 [.int .u8 46] rfl rfl (World.news_of_block (cs:=#[.int .u8 46]) (t:=5) (fr:=(0,0)) (heap_alloc_new _ _)) (by intro u hu; simp at hu; rcases hu with rfl; rfl) (by omega) (by unfold maxLen; omega) (by omega) (by have:=H5.out.ok.bel.size; simp; omega) _ rfl ?_; intro g6 cap6 w6 hown6 hgrow6 hat6 hlt6) | (refine Lib.wpList_append_own_string _ rfl _ _ 32 9 rfl w.heap.size 5 i0 underlying32 underlying9 hi hz0 hz1 hz2 _ _ _ rfl hown6 _ rfl ?c3 ?c4 ?c5 ?_))
  case c3=>unfold maxLen; omega
  case c4=>omega
  case c5=>have:=H5.out.ok.bel.size; have:=hgrow6.size; simp at this; omega
  intro v7 w7 hown7 hgrow7 _
  have H6:=Lib.hid (show ai w [] 5 1 (.slice (some ⟨g6,0,none⟩) (P.length+1) cap6) (P++[46]).length (au (P++[46])) w6 by
   have h9:=(H5.out.alloc_obj _).appended hown6 hgrow6 hat6
   simpa [au] using h9)
  have H7:=Lib.hid (H6.out.grew (m:=F.data.toList) (by have h9:=hown7; have hl:F.data.toList.length=F.size:=Array.length_toList; rw [hl]; simpa [au,Lib.strCells] using h9) hgrow7)
  have hcv:=dT H7.out.own
  have HFE:=keep (show eK a=P++46::F.data.toList by rw [HE.out,HT2.out])
  clear hown6 hgrow6 hat6 hlt6 hown7 hgrow7 H5 H6
  go_wp2_with fail
  go_ret
  exact ⟨by rw [HFE.out]; rfl,H7.out.ok.bel⟩
