/- show.outline and show.Outline. show.Outline, of any nodes. The kit's EqualTree in general, EqualStrings and CopyTree; the statements' Few. Plain: what the parser hands back is a tree that is shown. -/
import Derived.Lib.Repeat
import Derived.Test.YthdmpajkacmkdaaGreatDoorGTxv
import Derived.Test.YthdmpajkacmkdaaGreatDoorGTg
import Derived.Test.YthdmpajkacmkdaaGreatDoorGNdG
import Derived.Test.YthdmpajkacmkdaaGreatDoorGForB
import Derived.Test.YthdmpajkacmkdaaGreatDoorGParP
import Derived.Test.YthdmpajkacmkdaaGreatDoorGRft
import Derived.Test.YthdmpajkacmkdaaGreatDoorGShc
namespace Go.Proofs.YthdmpajkacmkdaaGreatDoor
set_option maxRecDepth 100000
set_option maxHeartbeats 8000000
open Go.RowKit Go.Proofs.Tryz
def bK (t:List Nd) (i lvl:Nat):List (List UInt8):=(nP t i).map fun x=>eN (x.1+lvl,x.2)
theorem oN {t:List Nd} {i:Nat} {n:Nd} (h:t[i]?=some n) (lvl:Nat):bK t i lvl=eN (lvl,bn n)::(ae t i).flatMap fun j=>bK t j (lvl+1):=by
 unfold bK
 rw [BS h]
 unfold lK
 rw [List.map_cons,Nat.zero_add]
 congr 1
 induction ae t i with
 | nil=>rfl
 | cons k ks ih =>
  rw [List.map_cons,List.flatMap_cons,List.map_append,List.flatMap_cons,← ih]
  congr 1
  unfold mL
  rw [List.map_map]
  apply List.map_congr_left
  intro x _
  show eN (x.1+1+lvl,x.2)=eN (x.1+(lvl+1),x.2)
  rw [show x.1+1+lvl=x.1+(lvl+1) by omega]
def lnK (t:List Nd) (i lvl:Nat) (L:List (List UInt8)) (n:Nd) (m:Nat):List (List UInt8):=(L++[eN (lvl,bn n)])++((ae t i).take m).flatMap fun j=>bK t j (lvl+1)
theorem oO {t:List Nd} {i lvl:Nat} {L:List (List UInt8)} {n:Nd} {m:Nat} (h:m<(ae t i).length):lnK t i lvl L n (m+1)=lnK t i lvl L n m++bK t ((ae t i)[m]) (lvl+1):=by
 unfold lnK
 rw [List.take_succ_eq_append_getElem h,List.flatMap_append,List.append_assoc,List.append_assoc,List.append_assoc]
 simp
theorem r9 {t:List Nd} {i lvl:Nat} {L:List (List UInt8)} {n:Nd} (h:t[i]?=some n):lnK t i lvl L n (ae t i).length=L++bK t i lvl:=by
 unfold lnK
 rw [List.take_length,oN h]
 simp
theorem mN {α β:Type} (f:α→List β):∀ (l:List α) (m:Nat),((l.take m).flatMap f).length≤(l.flatMap f).length
 | [],m=>by simp
 | x::l,0=>by simp
 | x::l,m+1=>by
  have:=mN f l m
  rw [List.take_succ_cons,List.flatMap_cons,List.flatMap_cons,List.length_append,List.length_append]
  omega
theorem vm {t:List Nd} {i lvl:Nat} {L:List (List UInt8)} {n:Nd} (h:t[i]?=some n) (m:Nat):(lnK t i lvl L n m).length≤L.length+(bK t i lvl).length:=by
 rw [oN h]
 unfold lnK
 rw [List.length_append,List.length_append,List.length_cons]
 have:=mN (fun j=>bK t j (lvl+1)) (ae t i) m
 simp only [List.length_cons,List.length_nil]
 omega
theorem sl (k:Nat):Lib.repeatL [32,32] k=List.replicate (2 * k) 32:=by
 induction k with
 | zero=>rfl
 | succ k ih =>
  rw [show 2 * (k+1)=2+2 * k by omega,← List.replicate_append_replicate,← ih]
  rfl
theorem lT {t:List Nd} (hc:cT t) {i:Nat} {n:Nd} (hn:t[i]?=some n):(ae t i).length≤16:=by
 rw [hc.kids i n hn]
 rcases (hc.good n (List.mem_of_getElem? hn)).1 with ⟨_,_,_,rfl,_⟩ | ⟨_,rfl,_⟩ | ⟨_,rfl,_⟩ | rfl | rfl | ⟨_,rfl,_⟩ | ⟨fn,k,rfl,_,_,_,h4⟩
 ·exact Nat.zero_le _
 ·exact Nat.zero_le _
 ·exact Nat.zero_le _
 ·exact (by decide:(1:Nat)≤16)
 ·exact (by decide:(1:Nat)≤16)
 ·exact (by decide:(2:Nat)≤16)
 have:(arS fn).2≤16:=by unfold arS; (repeat' split) <;> decide
 show k≤16
 omega
def um (t:List Nd) (tb tz tc i:Nat):Prop:=∀ (w0 w:World) (ps:List aZ) (v:Value) (L:List (List UInt8)) (lvl:Nat),TIn t tb tz w0→ai w0 ps 9 1 v L.length (bH L) w→lvl+i≤1000→L.length+(bK t i lvl).length≤100000 →
 Calls prog 25 #[.slice (some ⟨tb,tz,none⟩) t.length tc,.int .i64 (i:Nat),.int .i64 (lvl:Nat),v] w fun e w'=>∃ v',e=.returned v'∧ai w0 ps 9 1 v' (L++bK t i lvl).length (bH (L++bK t i lvl)) w'
theorem A8 (t:List Nd) (tb tz tc i:Nat) (hc:cT t) (hi:i<t.length) (IH:∀ j,j<i→um t tb tz tc j):um t tb tz tc i:=by
 intro w0 w ps v L lvl hin hrow hlv hll
 obtain ⟨n,hn⟩:∃ n,t[i]?=some n:=⟨_,List.getElem?_eq_getElem hi⟩
 have hg:=hc.good n (List.mem_of_getElem? hn)
 have hin2:=hin.below (an (Below.refl _ _) (hrow.ok.bel.mono (Nat.le_refl _)))
 obtain ⟨h1,h2⟩:=hin.node hn
 have h3:tb<w.heap.size:=Nat.lt_of_lt_of_le h1 hrow.ok.bel.size
 have HSTEP:=keep (fun m (h:m<(ae t i).length)=>oO (lvl:=lvl) (L:=L) (n:=n) h)
 have HLE:=keep (fun m=>vm (L:=L) (lvl:=lvl) hn m)
 have HALL:=keep (r9 (L:=L) (lvl:=lvl) hn)
 have HLT:=keep (fun m (h:m<(ae t i).length)=>bw t i _ (List.getElem_mem h))
 have HONE:=keep (show bH (lnK t i lvl L n 0)=bH L++[.string (byt (eN (lvl,bn n)))]∧(lnK t i lvl L n 0).length=L.length+1 by
  unfold lnK
  rw [List.take_zero,List.flatMap_nil,List.append_nil,mg,List.length_append]
  exact ⟨rfl,rfl⟩)
 have hos:=jE hg.1 hg.2
 have HOWN:=keep (fun (W:World) (h:cn W)=>dM n hg.1 hg.2 W h)
 have HKID:=keep (fun (W:World) (h:TIn t tb tz W)=>eo hc (tc:=tc) hi h)
 have hcw:ag w tb (tz+i * 11) 0 (bj n):=by
  have:(aa tb (tz+i * 11) (bj n)).p w:=(aa tb (tz+i * 11) (bj n)).st w0 w none (by simp [aa]) (d7 hrow.ok.bel none) ⟨h1,h2⟩
  exact this.2
 have hLL:=hll
 obtain ⟨K,hK⟩:=ex (L.length+(bK t i lvl).length)
 rw [hK] at HLE hLL
 obtain ⟨LK,hLK⟩:∃ LK:Nat→List (List UInt8),lnK t i lvl L n=LK:=⟨_,rfl⟩
 rw [hLK] at HSTEP HLE HALL HONE
 have hl0:=HLE.out 0
 rw [HONE.out.2] at hl0
 have HLL2:=keep (fun m (h:m<(ae t i).length)=>show (LK m).length+(bK t ((ae t i)[m]) (lvl+1)).length≤100000 by
  have h8:=HLE.out (m+1)
  rw [HSTEP.out m h,List.length_append] at h8
  omega)
 rw [← HALL.out]
 have HIH:=keep IH
 have HIN:=keep hin
 obtain ⟨X,hX⟩:∃ X:ByteArray,byt (eN (lvl,bn n))=X:=⟨_,rfl⟩
 rw [hX] at HONE
 obtain ⟨RP,hRP⟩:∃ RP:ByteArray,⟨(Lib.repeatL [32,32] lvl).toArray⟩=RP:=⟨_,rfl⟩
 obtain ⟨O,hO⟩:∃ O:ByteArray,⟨(bn n).toArray⟩=O:=⟨_,rfl⟩
 have zO:O.size≤1000000:=by rw [← hO]; show (bn n).toArray.size≤_; rw [List.size_toArray]; omega
 have zR:RP.size≤1000000:=by rw [← hRP,sl]; show (List.replicate (2 * lvl) (32:UInt8)).toArray.size≤_; simp; omega
 have HX:=keep (show X=RP++O by
  rw [← hX,← hRP,← hO,sl]
  show byt (List.replicate (2 * lvl) 32++bn n)=_
  rw [bytes_append]
  rfl)
 have HREP:=keep (fun W:World=>by
  have:=Tryz.strings_Repeat ⟨#[32,32]⟩ lvl W (by omega) (by show 2 * lvl≤_; omega)
  rw [show (⟨#[32,32]⟩:ByteArray).data.toList=[32,32] from rfl,hRP] at this
  exact this)
 simp only [hO] at HOWN
 have HR0:=Lib.hid (hrow.add (aa tb (tz+i * 11) (bj n)) ⟨h3,hcw⟩ (by
  show some tb≠v.ownBlock
  intro e
  have:=(hrow.own.lt tb e.symm).1
  omega))
 obtain ⟨P,hP⟩:∃ P:Ending→World→Prop,(fun (e:Ending) (w':World)=>∃ v',e=.returned v'∧ai w0 ps 9 1 v' (LK (ae t i).length).length (bH (LK (ae t i).length)) w')=P:=⟨_,rfl⟩
 rw [hP]
 have HPP:=keep hP
 clear hP
 obtain ⟨tl,htl⟩:=ex (t.length)
 have hki:(i:Int)<(tl:Int):=by omega
 rw [htl] at HKID ⊢
 have HTL:=keep htl
 obtain ⟨kn,hkn⟩:=ex ((ae t i).length)
 have HKN:=keep hkn
 have hkb:kn≤16:=by rw [← hkn]; exact lT hc hn
 have hw1:IntKind.i64.wrap ((lvl:Int)+1)=((lvl+1:Nat):Int):=by rw [Go.IntWalk.i64_in _ (by omega)]; omega
 obtain ⟨i0,hi,hz0,hz1,hz2⟩:=info_parts j7
 obtain ⟨nk,vk,vn,vt,⟨r1,r2,r3,r4⟩,op,fn,nn⟩:=n
 clear hLK hX hRP hO htl hkn h1 h2 h3 hcw hn hg hin hin2 hrow hos hc hK IH hll
 have HR1:Hid (ai w0 (aa tb (tz+i * 11) [.int .u8 nk,.int .u8 vk,.int .i64 vn,.string ⟨vt.toArray⟩,.int .i64 r1,.int .i64 r2,.int .i64 r3,.int .i64 r4,.int .i64 op,.int .u8 fn,.int .i64 nn]::ps) 9 1 v L.length (bH L) w):=HR0
 clear HR0
 go_enter func25,ntmps25
 go_upto_region 1 with fail
 have HRD:=Lib.hid HR1.out.drew
 have HB9:=keep HRD.out.ok.bel.size
 generalize hWd:w.drew=Wd at HRD HB9
 refine wp_region_held_drew (S:=fun W=>Ok w0 (aa tb (tz+i * 11) [.int .u8 nk,.int .u8 vk,.int .i64 vn,.string ⟨vt.toArray⟩,.int .i64 r1,.int .i64 r2,.int .i64 r3,.int .i64 r4,.int .i64 op,.int .u8 fn,.int .i64 nn]::ps) W) (by kernel_rfl) (by rw [hWd]; exact HRD.out.ok) (fun hHeld => ?_)
 rw [hWd] at hHeld ⊢
 clear hWd HR1
 refine wt4 0 ?_
 refine wt4 1 ?_
 refine wt4 3 ?_
 refine wt4 4 ?_
 refine wt4 5 ?_
 refine wt4 6 ?_
 refine wal 2 fun K hK => ?_
 go_simp
 refine (HREP.out _).mono ?_
 rintro e w1 ⟨rfl,hb2⟩
 go_wp2_with fail
 have H3:=Lib.hid (HRD.out.below hb2)
 clear hb2 HRD
 refine hK.out _ _ H3.out.ok (fun hHeld => ?_)
 clear hK K
 refine wn ?_
 refine wal 7 fun K hK => ?_
 go_simp
 refine (HOWN.out _ ((HIN.out.below (Below.mono hHeld.bel (Nat.le_refl _))).env)).mono ?_
 rintro e w4 ⟨rfl,hb5⟩
 go_wp2_with fail
 have H6:=Lib.hid (H3.out.below hb5)
 clear hb5 H3
 refine hK.out _ _ H6.out.ok (fun hHeld => ?_)
 clear hK K
 refine wn ?_
 refine wt4 8 ?_
 refine wal 9 fun K hK => ?_
 go_simp
 have HO1:=Lib.hid (H6.out.alloc_obj (.cells #[.string (RP++O)] 9))
 refine hK.out _ _ HO1.out.ok (fun hHeld => ?_)
 clear hK K
 refine wn ?_
 refine wal 10 fun K hK => ?_
 refine step_append_lies _ (by rfl) _ _ _ (by rfl) w0.heap.size 9 i0 _ 1 16 underlying38 hi hz0 hz1 hz2 rfl (by omega) _ _ _ (by rfl) HO1.out.own ⟨w4.heap.size,0,none⟩ 1 1 [.string (RP++O)] (by rfl) (by rfl) (World.news_of_block (cs:=#[.string (RP++O)]) (t:=9) (fr:=(0,0)) (heap_alloc_new _ _)) (by intro u hu; simp at hu; rcases hu with rfl; rfl) (by omega) (by unfold maxLen; omega) (by omega) (by have:=HB9.out; have:=H6.out.ok.bel.size; simp; omega) (w4.heap.size+1) (by simp) ?_
 intro g3 cap3 w3 hown3 hgrow3 hat3 hlt3
 have HO3:=Lib.hid (HO1.out.appended hown3 hgrow3 (by rw [World.size_alloc]; exact hat3))
 clear hown3 hgrow3 hat3 HO1
 refine hK.out _ _ HO3.out.ok (fun hHeld => ?_)
 clear hK K
 refine wn ?_
 refine wt4 11 ?_
 refine wpAnyH_done (by kernel_rfl) ?_ _
 clear hHeld
 have HO4:=Lib.hid (show ai w0 ps 9 1 (.slice (some ⟨g3,0,none⟩) (L.length+1) cap3) (L.length+1) (bH (LK 0)) w3 by rw [HONE.out.1,HX.out]; exact HO3.out.tail)
 clear HO3
 go_wp2_with fail
 refine (HKID.out _ (HIN.out.below (Below.mono HO4.out.ok.bel (Nat.le_refl _)))).mono ?_
 rintro e w5 ⟨kv,rfl,hrow,hb⟩
 obtain ⟨ka,kc,hkv⟩:=aQ hrow
 rw [HKN.out] at hkv
 subst hkv
 have HR5:=Lib.hid ((HO4.out.below hb).add (aK w3.heap.size 3 1 (.slice ka kn kc) (ae t i).length ((ae t i).map fun x=>.int .i64 (x:Nat))) hrow (by
  show (Value.slice ka kn kc).ownBlock=none∨(Value.slice ka kn kc).ownBlock≠_
  cases h9:(Value.slice ka kn kc).ownBlock with
  | none=>exact .inl rfl
  | some q9 =>
   refine .inr ?_
   have h8:=(hrow.lt q9 h9).1
   have h7:=(HO4.out.own.lt g3 rfl).2
   show some q9≠some g3
   simp only [ne_eq,Option.some.injEq]
   omega))
 clear hb hrow HO4
 rw [← HONE.out.2] at HR5
 go_wp2_with fail
 go_loopw [3,32] (fun lv iv wr=>∃ m:Nat,m≤kn∧iv=.int .i64 (m:Int)∧Hid (ai w0 (aK w3.heap.size 3 1 (.slice ka kn kc) (ae t i).length ((ae t i).map fun x=>.int .i64 (x:Nat))::ps) 9 1 lv (LK m).length (bH (LK m)) wr)) (fun _ iv _=>kn - (intOf iv).toNat)
 case atStart=>exact ⟨0,Nat.zero_le _,rfl,by rw [HONE.out.2] at HR5 ⊢; exact HR5⟩
 case round =>
  clear HR5
  obtain ⟨m,hmk,rfl,HRW⟩:=hrel
  obtain ⟨wq,rfl⟩:∃ wq:World,wq=wr:=⟨_,rfl⟩
  by_cases hlm:(m:Int)<(kn:Int)
  ·have hml:m<(ae t i).length:=by rw [HKN.out]; omega
   have HML:=keep hml
   have hrw:wq.ownsRow w3.heap.size 3 1 (.slice ka kn kc) (ae t i).length ((ae t i).map fun x=>.int .i64 (x:Nat)):=HRW.out.ok.get (aK w3.heap.size 3 1 (.slice ka kn kc) (ae t i).length ((ae t i).map fun x=>.int .i64 (x:Nat))) (by simp)
   have hcell:=@World.ownsRow.cells _ _ _ _ _ _ _ hrw
   have hlt9:=hrw.lt
   rcases hrw.2 with ⟨h9,h0⟩ | ⟨g,cap,cur,h9,-⟩
   ·omega
   simp only [Value.slice.injEq] at h9
   obtain ⟨rfl,-,rfl⟩:=h9
   obtain ⟨j,hj⟩:=ex ((ae t i)[m]'hml)
   have hkc:=hcell rfl m (.int .i64 (j:Nat)) (by rw [List.getElem?_map,List.getElem?_eq_getElem hml,hj]; rfl)
   rw [show (⟨g,0,none⟩:Addr).add m=⟨g,0+m,none⟩ by unfold Addr.add; split <;> simp_all,Nat.zero_add] at hkc
   have hglt:=(hlt9 g rfl).2
   have hji:=HLT.out m hml
   have hl2:=HLL2.out m hml
   have hst2:=HSTEP.out m hml
   rw [hj] at hji hl2 hst2
   have hih:=HIH.out j hji w0 wq _ _ (LK m) (lvl+1) HIN.out HRW.out (by omega) hl2
   rw [HTL.out,← hst2] at hih
   have HI:=keep hih
   clear hih hl2 hst2 hrw hcell hlt9 hj hji hml HRW
   go_wp2_with fail
   refine HI.out.mono ?_
   rintro e w8 ⟨v9,rfl,hrow9⟩
   have HR9:=Lib.hid hrow9
   clear hrow9 hkc hglt
   go_wp2_with fail
   go_roundw
   case rel=>exact ⟨m+1,by omega,by go_num,HR9⟩
   case measure=>simp [intOf]; omega
  obtain rfl:kn=m:=by omega
  go_wp2_with fail
  first
   | go_ret
   | skip
  rw [← HPP.out]
  refine ⟨_,rfl,?_⟩
  rw [HKN.out]
  exact HRW.out.tail
theorem nX (t:List Nd) (tb tz tc:Nat) (hc:cT t):∀ i,i<t.length→um t tb tz tc i:=by
 intro i
 induction i using Nat.strongRecOn with
 | _ i ih=>exact fun hi=>A8 t tb tz tc i hc hi fun j hj=>ih j hj (by omega)
set_option maxRecDepth 100000
set_option maxHeartbeats 4000000
noncomputable def olS (t:List NdA):List (List UInt8):=if aC t≠0 then [] else (oZ (t.map NdA.nd)).map eN
theorem nQ {t:List NdA} (h:aC t≠0):olS t=[]:=if_pos h
theorem ki {t:List NdA} (h:aC t=0):olS t=(oZ (t.map NdA.nd)).map eN:=if_neg (by rw [h]; decide)
def oj (t:List NdA) (w:World) (e:Ending) (w':World):Prop :=
 ∃ v,e=.returned (.tuple #[v,.int .i64 (aC t)])∧w'.ownsRow w.heap.size 9 1 v (olS t).length (bH (olS t))∧Below w.heap.size w w'
theorem lU {n:Nd} (h:aL n) (hn:n.vn≤9223372036854775807):NdC n:=by
 rcases h with ⟨vk,vn,vt,rfl,hv⟩ | ⟨⟨a,b,c,d⟩,rfl,hck,h1,h2⟩ | ⟨r,rfl,hck,hne⟩ | rfl | rfl | ⟨op,rfl,h1,h2⟩ | ⟨fn,k,rfl,h1,h2,h3,h4⟩
 ·have hn:vn≤9223372036854775807:=hn
  rcases hv with ⟨rfl,h0,rfl⟩ | ⟨rfl,h0,rfl⟩ | ⟨rfl,rfl,hl,hp⟩ | ⟨rfl,⟨h1,h5⟩,rfl⟩
  ·exact .num vn h0 hn
  ·rcases h0 with rfl | rfl
   ·exact .no
   exact .yes
  ·exact .text vt hp
  obtain ⟨c,rfl⟩:∃ c:Nat,vn=(c:Int):=⟨vn.toNat,by omega⟩
  exact .err c (by omega) (by omega)
 ·have e:(⟨a,b,c,d⟩:R4)=⟨a,b,a,b⟩:=by
   have h1:a=c:=h1
   have h2:b=d:=h2
   rw [← h1,← h2]
  rw [e]
  unfold aG at hck
  simp only [Bool.and_eq_true] at hck
  exact .ref a b hck.1.1.1
 ·exact .rng r hck hne
 ·exact .neg
 ·exact .pct
 ·exact .bin op h1 h2
 exact .call fn k h1 h2 h3 h4
theorem cT.ndc {t:List Nd} (h:cT t):∀ n∈t,NdC n:=fun n hn=>lU (h.good n hn).1 (h.good n hn).2
theorem jX {t:List NdA} (h:aC t=0):de (t.map NdA.nd)=0:=(eY h).2.1
theorem jN (t:List NdA) (ta:Option Addr) (tc:Nat) (w:World) (hs:ASz t) (hin:AIn t ta w) :
  Calls prog 11 #[.slice ta t.length tc] w (oj t w):=by
 have HCK:=keep (bZ t ta tc w hin.rows hs.len hs.txt)
 obtain ⟨P,hP⟩:∃ P:Ending→World→Prop,oj t w=P:=⟨_,rfl⟩
 rw [hP]
 have HPP:=keep hP
 clear hP
 obtain ⟨tl,htl⟩:=ex (t.length)
 rw [htl] at HCK ⊢
 by_cases hc:aC t=0
 ·obtain ⟨he,hk,h0,p,hw,-⟩:=jQ hc hs.num
  obtain ⟨tb,tz,rfl,htin⟩:=hin.tin hc hs
  have hpos:0<t.length:=List.length_pos_iff.2 h0
  have hne:t.map NdA.nd≠[]:=by simpa using h0
  have hol:bK (t.map NdA.nd) (tl - 1) 0=olS t:=by
   have:=(eW hw hne).2.2.2
   rw [List.length_map,htl] at this
   rw [ki hc,this]
   rfl
  have hlen:(olS t).length≤256:=by
   rw [ki hc,List.length_map,(kj _ hk.ndc (jX hc)).1]
   exact hk.len
  have hkl:=hk.len
  rw [List.length_map] at hkl
  have HOL:bh (∀ w2,TIn (t.map NdA.nd) tb tz w2→Calls prog 25 #[.slice (some ⟨tb,tz,none⟩) tl tc,.int .i64 ((tl - 1:Nat):Int),.int .i64 0,.slice none 0 0] w2 fun e w'=>∃ v',e=.returned v'∧ai w2 [] 9 1 v' (olS t).length (bH (olS t)) w'):=keep (fun w2 h=>by
   have:=nX (t.map NdA.nd) tb tz tc hk (tl - 1) (by rw [List.length_map]; omega) w2 w2 [] (.slice none 0 0) [] 0 h (ai.start (Ok.start w2) 9 1) (by omega) (by rw [hol]; show 0+(olS t).length≤_; omega)
   rw [hol,List.length_map,htl,List.nil_append] at this
   exact this)
  have HIN:=keep htin
  have HCZ:=keep hc
  rw [hc] at HCK
  have hp1:0<tl:=by omega
  obtain ⟨l1,hl1⟩:=ex (tl - 1)
  rw [hl1] at HOL
  have hi1:IntKind.i64.wrap ((tl:Int) - 1)=(l1:Int):=by rw [Go.IntWalk.i64_in _ (by omega)]; omega
  clear hlen hol hw hne hpos h0 he hk hin htin hc hs
  go_enter func11,ntmps11
  go_wp2_with fail
  refine HCK.out.mono ?_
  rintro e w1 ⟨rfl,hb⟩
  have HB:=Lib.hid hb
  have HI2:=keep (HIN.out.below hb)
  clear hb
  go_wp2_with fail
  refine (HOL.out w1 HI2.out).mono ?_
  rintro e w2 ⟨v,rfl,hrow⟩
  have HB2:=Lib.hid (an HB.out hrow.ok.bel)
  have HRW:=keep (hrow.own.mono HB.out.size)
  clear hrow
  go_wp2_with fail
  rw [← HPP.out]
  exact ⟨v,by rw [HCZ.out]; rfl,HRW.out,HB2.out⟩
 obtain ⟨c,hcc⟩:=ex (aC t)
 have HCZ:=keep hcc
 have HBAD:=keep (nQ hc)
 rw [hcc] at HCK hc
 have hcb:(c != 0)=true:=by simpa using hc
 clear hcc hc hin hs htl
 go_enter func11,ntmps11
 go_wp2_with fail
 refine HCK.out.mono ?_
 rintro e w1 ⟨rfl,hb⟩
 have HB:=Lib.hid hb
 clear hb
 go_wp2_with fail
 rw [← HPP.out]
 exact ⟨.slice none 0 0,by rw [HCZ.out]; rfl,by rw [HBAD.out]; exact World.ownsRow_nil _ _ _ _,HB.out⟩
set_option maxRecDepth 100000
set_option maxHeartbeats 4000000
attribute [local go_sem high] nH
open Classical in
noncomputable def eqA (t u:List NdA):Bool:=decide (t=u)
open Classical in
theorem rO (t:List NdA):eqA t t=true:=decide_eq_true rfl
open Classical in
theorem uN {t u:List NdA} (h:t≠u):eqA t u=false:=decide_eq_false h
theorem ee {w0 w:World} {b o:Nat} {l:List Value} (hb:Below w0.heap.size w0 w) (hlt:b<w0.heap.size) (h:∀ j v,l[j]?=some v→w0.cell? ⟨b,o+j,none⟩=some v):b<w.heap.size∧ag w b o 0 l :=
 ⟨Nat.lt_of_lt_of_le hlt hb.size,fy l fun j v hj=>(hb.cell hlt).trans (h j v hj)⟩
theorem fj {w:World} {a:Option Addr} {s:Nat} {l:List (List Value)} (h:ax w a s l) {i:Nat} {r:List Value} (hi:l[i]?=some r):∃ b o,a=some ⟨b,o,none⟩∧b<w.heap.size∧∀ j v,r[j]?=some v→w.cell? ⟨b,o+i * s+j,none⟩=some v:=by
 obtain ⟨b,o,h1,h2,h3⟩:=h (by intro e; rw [e] at hi; cases hi)
 exact ⟨b,o,h1,h2,fun j v hj=>by rw [Nat.add_assoc]; exact h3 i r hi j v hj⟩
theorem ox (t u:List NdA) (a b:Option Addr) (c d:Nat) (w:World) (ht:t.length≤1000) (hu:u.length≤1000) (ha:ax w a 11 (t.map bf)) (hb:ax w b 11 (u.map bf)) :
  Calls prog 14 #[.slice a t.length c,.slice b u.length d] w fun e w'=>e=.returned (.bool (eqA t u))∧Below w.heap.size w w':=by
 have HA:=keep ha
 have HB:=keep hb
 clear ha hb
 obtain ⟨V,hV⟩:=ex (eqA t u)
 rw [hV]
 have HV:=keep hV
 clear hV
 obtain ⟨n,hn⟩:=ex (t.length)
 obtain ⟨m,hm⟩:=ex (u.length)
 rw [hn,hm]
 have HN:=keep hn
 have HM:=keep hm
 rw [hn] at ht
 rw [hm] at hu
 clear hn hm
 by_cases hnm:n=m
 rotate_left
 ·have hne:((n:Int) != (m:Int))=true:=by simp; omega
  have HE:=keep (show V=false from HV.out.symm.trans (uN (by rintro rfl; exact hnm (HN.out.symm.trans HM.out))))
  clear hnm
  go_enter func14,ntmps14
  go_wp2_with fail
  go_ret
  exact ⟨by rw [HE.out]; rfl,Below.refl _ _⟩
 subst hnm
 go_enter func14,ntmps14
 go_wp2_with fail
 go_loopw [5] (fun i wr=>∃ k:Nat,k≤n∧i=.int .i64 (k:Int)∧bh (t.take k=u.take k)∧Hid (Below w.heap.size w wr)) (fun i _=>n - (intOf i).toNat)
 case atStart=>exact ⟨0,Nat.zero_le _,rfl,keep rfl,Below.refl _ _⟩
 case round =>
  obtain ⟨k,hk,rfl,HEQ,H2⟩:=hrel
  obtain ⟨wp,rfl⟩:∃ wp:World,wp=wr:=⟨_,rfl⟩
  by_cases hlt:(k:Int)<n
  ·have hil:k<t.length:=by rw [HN.out]; omega
   have hil2:k<u.length:=by rw [HM.out]; omega
   obtain ⟨x,hx⟩:=ex (t[k])
   obtain ⟨y,hy⟩:=ex (u[k])
   have HST:=keep (show x=y→t.take (k+1)=u.take (k+1) from fun e=>by rw [List.take_succ_eq_append_getElem hil,List.take_succ_eq_append_getElem hil2,HEQ.out,hx,hy,e])
   have HNE:=keep (show x≠y→V=false from fun e=>HV.out.symm.trans (uN (by rintro rfl; exact e (hx.symm.trans hy))))
   obtain ⟨b1,o1,ha1,hB1,hc1⟩:=fj HA.out (i:=k) (r:=bf x) (by rw [List.getElem?_map,List.getElem?_eq_getElem hil,hx]; rfl)
   obtain ⟨b2,o2,hb2,hB2,hc2⟩:=fj HB.out (i:=k) (r:=bf y) (by rw [List.getElem?_map,List.getElem?_eq_getElem hil2,hy]; rfl)
   subst ha1 hb2
   have q1:=ee H2.out hB1 hc1
   have q2:=ee H2.out hB2 hc2
   clear hil hil2 hx hy hc1 hc2
   obtain ⟨xk,xvk,xvn,xvt,⟨xr1,xr2,xr3,xr4⟩,xop,xfn,xn⟩:=x
   obtain ⟨yk,yvk,yvn,yvt,⟨yr1,yr2,yr3,yr4⟩,yop,yfn,yn⟩:=y
   obtain ⟨q,hq⟩:=ex (bl xk xvk xvn xr1 xr2 xr3 xr4 xop xfn xn yk yvk yvn yr1 yr2 yr3 yr4 yop yfn yn xvt yvt)
   have HQ:=keep hq
   have H3:Hid (Ok w [aa b1 (o1+k * 11) [.int .u8 xk,.int .u8 xvk,.int .i64 xvn,.string ⟨xvt.toArray⟩,.int .i64 xr1,.int .i64 xr2,.int .i64 xr3,.int .i64 xr4,.int .i64 xop,.int .u8 xfn,.int .i64 xn],aa b2 (o2+k * 11) [.int .u8 yk,.int .u8 yvk,.int .i64 yvn,.string ⟨yvt.toArray⟩,.int .i64 yr1,.int .i64 yr2,.int .i64 yr3,.int .i64 yr4,.int .i64 yop,.int .u8 yfn,.int .i64 yn]] wp):=Lib.hid (((⟨H2.out,fun _ h=>absurd h (by simp)⟩:Ok w [] wp).add (aa b2 (o2+k * 11) [.int .u8 yk,.int .u8 yvk,.int .i64 yvn,.string ⟨yvt.toArray⟩,.int .i64 yr1,.int .i64 yr2,.int .i64 yr3,.int .i64 yr4,.int .i64 yop,.int .u8 yfn,.int .i64 yn]) q2).add (aa b1 (o1+k * 11) [.int .u8 xk,.int .u8 xvk,.int .i64 xvn,.string ⟨xvt.toArray⟩,.int .i64 xr1,.int .i64 xr2,.int .i64 xr3,.int .i64 xr4,.int .i64 xop,.int .u8 xfn,.int .i64 xn]) q1)
   clear H2 q1 q2
   cases q
   ·have HE:=keep (HNE.out fun e=>by
     injection e with e1 e2 e3 e4 e5 e6 e7 e8
     injection e5 with f1 f2 f3 f4
     have:=(aS xk xvk xvn xr1 xr2 xr3 xr4 xop xfn xn yk yvk yvn yr1 yr2 yr3 yr4 yop yfn yn xvt yvt).2 ⟨by omega,by omega,e3,e4,f1,f2,f3,f4,e6,by omega,e8⟩
     rw [HQ.out] at this; cases this)
    go_upto_region 6 with fail
    refine wp_region_held_drew (S:=fun W=>Ok w [aa b1 (o1+k * 11) [.int .u8 xk,.int .u8 xvk,.int .i64 xvn,.string ⟨xvt.toArray⟩,.int .i64 xr1,.int .i64 xr2,.int .i64 xr3,.int .i64 xr4,.int .i64 xop,.int .u8 xfn,.int .i64 xn],aa b2 (o2+k * 11) [.int .u8 yk,.int .u8 yvk,.int .i64 yvn,.string ⟨yvt.toArray⟩,.int .i64 yr1,.int .i64 yr2,.int .i64 yr3,.int .i64 yr4,.int .i64 yop,.int .u8 yfn,.int .i64 yn]] W) (by kernel_rfl) H3.out.drew (fun hHeld => ?_)
    refine wt3 0 ?_
    refine wt3 1 ?_
    refine wt3 2 ?_
    refine wt3 3 ?_
    refine wt3 4 ?_
    refine wt3 5 ?_
    refine wt3 6 ?_
    refine wt3 7 ?_
    refine wt3 8 ?_
    refine wpAnyH_done (by kernel_rfl) ?_ _
    clear H3
    have H2:=Lib.hid hHeld
    clear hHeld
    go_wp2_with fail
    go_ret
    exact ⟨by rw [HE.out]; rfl,H2.out.bel⟩
   have HEE:=keep (HST.out (by
    obtain ⟨e1,e2,e3,e4,f1,f2,f3,f4,e6,e7,e8⟩:=(aS ..).1 HQ.out
    have e1:xk=yk:=by omega
    have e2:xvk=yvk:=by omega
    have e7:xfn=yfn:=by omega
    rw [e1,e2,e3,e4,f1,f2,f3,f4,e6,e7,e8]))
   go_upto_region 6 with fail
   refine wp_region_held_drew (S:=fun W=>Ok w [aa b1 (o1+k * 11) [.int .u8 xk,.int .u8 xvk,.int .i64 xvn,.string ⟨xvt.toArray⟩,.int .i64 xr1,.int .i64 xr2,.int .i64 xr3,.int .i64 xr4,.int .i64 xop,.int .u8 xfn,.int .i64 xn],aa b2 (o2+k * 11) [.int .u8 yk,.int .u8 yvk,.int .i64 yvn,.string ⟨yvt.toArray⟩,.int .i64 yr1,.int .i64 yr2,.int .i64 yr3,.int .i64 yr4,.int .i64 yop,.int .u8 yfn,.int .i64 yn]] W) (by kernel_rfl) H3.out.drew (fun hHeld => ?_)
   refine wt3 0 ?_
   refine wt3 1 ?_
   refine wt3 2 ?_
   refine wt3 3 ?_
   refine wt3 4 ?_
   refine wt3 5 ?_
   refine wt3 6 ?_
   refine wt3 7 ?_
   refine wt3 8 ?_
   refine wpAnyH_done (by kernel_rfl) ?_ _
   clear H3
   have H2:=Lib.hid hHeld
   clear hHeld
   go_wp2_with fail
   go_roundw
   case rel=>exact ⟨k+1,by omega,by go_num,HEE,H2.out.bel⟩
   case measure=>simp [intOf]; omega
  obtain rfl:n=k:=by omega
  have HE:=keep (show V=true by
   have h9:=HEQ.out
   rw [List.take_of_length_le (by rw [HN.out]; exact Nat.le_refl _),List.take_of_length_le (by rw [HM.out]; exact Nat.le_refl _)] at h9
   rw [← HV.out,h9]; exact rO _)
  go_wp2_with fail
  go_ret
  exact ⟨by rw [HE.out]; rfl,H2.out⟩
def rk (l:List (List UInt8)):List (List Value):=l.map fun x=>[.string (byt x)]
theorem t7 (l:List (List UInt8)):bH l=l.flatMap fun x=>[.string (byt x)]:=by
 unfold bH
 induction l with
 | nil=>rfl
 | cons x l ih=>rw [List.map_cons,List.flatMap_cons,ih]; rfl
theorem mh {w:World} {base:Nat} {v:Value} {l:List (List UInt8)} (h:w.ownsRow base 9 1 v l.length (bH l)):∃ a c,v=.slice a l.length c∧l.length≤c∧ax w a 1 (rk l):=by
 rw [t7] at h
 obtain ⟨a,c,h1,h2,-,h4⟩:=fN (fun x=>[Value.string (byt x)]) (fun _=>rfl) h rfl
 exact ⟨a,c,h1,h2,h4⟩
theorem lN (l:List (List UInt8)) (a b:Option Addr) (c d:Nat) (w:World) (hl:l.length≤100000) (ha:ax w a 1 (rk l)) (hb:ax w b 1 (rk l)) :
  Calls prog 13 #[.slice a l.length c,.slice b l.length d] w fun e w'=>e=.returned (.bool true)∧Below w.heap.size w w':=by
 have HA:=keep ha
 have HB:=keep hb
 clear ha hb
 obtain ⟨n,hn⟩:=ex (l.length)
 rw [hn] at hl ⊢
 have HN:=keep hn
 clear hn
 go_enter func13,ntmps13
 go_wp2_with fail
 go_loopw [5] (fun i wr=>∃ k:Nat,k≤n∧i=.int .i64 (k:Int)∧Hid (Below w.heap.size w wr)) (fun i _=>n - (intOf i).toNat)
 case atStart=>exact ⟨0,Nat.zero_le _,rfl,Below.refl _ _⟩
 case round =>
  obtain ⟨k,hk,rfl,H2⟩:=hrel
  obtain ⟨wp,rfl⟩:∃ wp:World,wp=wr:=⟨_,rfl⟩
  by_cases hlt:(k:Int)<n
  ·have hil:k<l.length:=by rw [HN.out]; omega
   obtain ⟨X,hX⟩:=ex (byt l[k])
   obtain ⟨b1,o1,ha1,hB1,hc1⟩:=fj HA.out (i:=k) (r:=[.string X]) (by unfold rk; rw [List.getElem?_map,List.getElem?_eq_getElem hil,← hX]; rfl)
   obtain ⟨b2,o2,hb2,hB2,hc2⟩:=fj HB.out (i:=k) (r:=[.string X]) (by unfold rk; rw [List.getElem?_map,List.getElem?_eq_getElem hil,← hX]; rfl)
   subst ha1 hb2
   have q1:=ee H2.out hB1 hc1
   have q2:=ee H2.out hB2 hc2
   simp only [Nat.mul_one] at q1 q2
   clear hil hX hc1 hc2
   have H3:Hid (Ok w [aa b1 (o1+k) [.string X],aa b2 (o2+k) [.string X]] wp):=Lib.hid (((⟨H2.out,fun _ h=>absurd h (by simp)⟩:Ok w [] wp).add (aa b2 (o2+k) [.string X]) q2).add (aa b1 (o1+k) [.string X]) q1)
   clear H2 q1 q2
   go_upto_region 6 with fail
   refine wp_region_held_drew (S:=fun W=>Ok w [aa b1 (o1+k) [.string X],aa b2 (o2+k) [.string X]] W) (by kernel_rfl) H3.out.drew (fun hHeld => ?_)
   refine wt3 0 ?_
   refine wt3 1 ?_
   refine wt3 2 ?_
   refine wt3 3 ?_
   refine wt3 4 ?_
   refine wt3 5 ?_
   refine wt3 6 ?_
   refine wt3 7 ?_
   refine wt3 8 ?_
   refine wpAnyH_done (by kernel_rfl) ?_ _
   clear H3
   have H2:=Lib.hid hHeld
   clear hHeld
   go_wp2_with fail
   go_roundw
   case rel=>exact ⟨k+1,by omega,by go_num,H2.out.bel⟩
   case measure=>simp [intOf]; omega
  obtain rfl:n=k:=by omega
  go_wp2_with fail
  go_ret
  exact ⟨rfl,H2.out⟩
open Go.RowKit
def MAX:Int:=9223372036854775807
theorem fG {ns ms:List Nd} (h:∀ y∈ns,y.vn≤MAX) (g:∀ y∈ms,y.vn≤MAX):∀ y∈ns++ms,y.vn≤MAX:=by
 intro y hy
 rcases List.mem_append.1 hy with hy | hy
 ·exact h y hy
 exact g y hy
theorem eE {ms:List Nd} {x:Nd} (hx:x.vn≤MAX) (g:∀ y∈ms,y.vn≤MAX):∀ y∈x::ms,y.vn≤MAX:=by
 intro y hy
 rcases List.mem_cons.1 hy with rfl | hy
 ·exact hx
 exact g y hy
theorem kh {ns:List Nd} {x:Nd} (h:∀ y∈ns,y.vn≤MAX) (hx:x.vn≤MAX):∀ y∈ns++[x],y.vn≤MAX:=fG h (eE hx (by simp))
theorem ei {x:Nd} (h:x.vn=0):x.vn≤MAX:=by rw [h]; decide
theorem Pk.nums {m:Md} {ts u:List Tk} {ns:List Nd} {n:Nat} (h:Pk m ts u ns n):(∀ t∈ts,t.num≤MAX)→∀ x∈ns,x.vn≤MAX:=by
 induction h with
 | lv5 _ _ ih=>intro hg; exact ih hg
 | lv hk h _ ih1 ih2=>intro hg; exact fG (ih1 hg) (ih2 fun t ht=>hg t (h.sub t ht))
 | nil=>intro _; simp
 | stop=>intro _; simp
 | op h8 hk h _ ih1 ih2=>intro hg; exact fG (ih1 fun t ht=>hg t (by simp [ht])) (eE (ei rfl) (ih2 fun t ht=>hg t (by simp [h.sub t ht])))
 | neg _ _ _ ih=>intro hg; exact kh (ih fun t ht=>hg t (by simp [ht])) (ei rfl)
 | bare _ _ _ ih=>intro hg; exact ih hg
 | pow _ h _ _ _ ih1 ih2=>intro hg; exact fG (ih1 hg) (kh (ih2 fun t ht=>hg t (h.sub t (by simp [ht]))) (ei rfl))
 | pc _ ih =>
  intro hg
  refine fG (ih hg) fun y hy => ?_
  rw [(List.mem_replicate.1 hy).2]
  exact ei rfl
 | @val t l h1 h4=>intro hg; exact eE (by have:=hg t (by simp); show (if t.kind=2 then 0 else t.num)≤MAX; split <;> first | decide | exact this) (by simp)
 | ref h5=>intro hg; exact eE (ei rfl) (by simp)
 | par _ _ _ ih=>intro hg; exact ih fun t ht=>hg t (by simp [ht])
 | call h7 hf ho h hc h1 h2 hd ih=>intro hg; exact kh (ih fun t ht=>hg t (by simp [ht])) (ei rfl)
 | argE _ _ _ ih=>intro hg; exact ih hg
 | argC _ h _ _ ih1 ih2=>intro hg; exact fG (ih1 hg) (ih2 fun t ht=>hg t (h.sub t (by simp [ht])))
 | rngE h6=>intro hg; exact eE (ei rfl) (by simp)
 | rngC h6 _ _ _ ih=>intro hg; exact eE (ei rfl) (ih fun t ht=>hg t (by simp [ht]))
theorem ir {L:List UInt8} {t:List Nd} {a:Int} (h:bU L=(t,a,0)):a=0∧aC (t.map Nd.any)=0∧ASz (t.map Nd.any)∧(∀ n∈t,NdC n)∧de t=0∧∃ ts n,ba L=(ts,0,0)∧Pk (.lv 1) ts [] t n:=by
 rcases qA L with ⟨a',e',h',he,-,-⟩ | ⟨ts,ns,n,h',ht,hp,hc⟩
 ·rw [h] at h'
  exact absurd (Prod.mk.inj (Prod.mk.inj h').2).2.symm he
 rw [h] at h'
 obtain ⟨rfl,h2⟩:=Prod.mk.inj h'
 obtain ⟨rfl,-⟩:=Prod.mk.inj h2
 obtain ⟨-,-,-,hlex⟩:=iH ht
 have hnum:=hp.nums fun t ht=>(hlex.nums t ht).2
 have hgood:=hp.good (by simp only [okM]) (ie ht)
 have hck:aC (t.map Nd.any)=0:=by rw [iX hgood]; exact hc
 obtain ⟨-,-,-,hlen,-⟩:=eY hck
 have hndc:∀ n∈t,NdC n:=fun n hn=>lU (hgood n hn) (hnum n hn)
 refine ⟨rfl,hck,⟨by omega,?_,?_⟩,hndc,hc,ts,n,ht,hp⟩
 ·intro x hx
  obtain ⟨y,hy,rfl⟩:=List.mem_map.1 hx
  have:=iu (hgood y hy)
  show y.vt.length≤_
  omega
 intro x hx
 obtain ⟨y,hy,rfl⟩:=List.mem_map.1 hx
 exact hnum y hy
