/- The statements' Few. ShowBack, ShowDiffers: the walks. The reference's Parents. -/
import Derived.Test.YtdplcdhpnmcdjaaGreatDoorFRds
import Derived.Test.YtdplcdhpnmcdjaaGreatDoorFTg
import Derived.Test.YtdplcdhpnmcdjaaGreatDoorFRvk
namespace Go.Proofs.YtdplcdhpnmcdjaaGreatDoor
set_option maxRecDepth 100000
set_option maxHeartbeats 8000000
open Go.RowKit Go.Proofs.Tryz
theorem t7 (S:ByteArray):(S.extract 0 (min (S.size:Int) 300).toNat).data.toList=S.data.toList.take 300∧(S.extract 0 (min (S.size:Int) 300).toNat).size≤300:=by
 have h9:S.data.toList.length=S.size:=by rw [Array.length_toList]; rfl
 have h8:(S.extract 0 (min (S.size:Int) 300).toNat).data.toList=S.data.toList.take 300:=by
  rw [Lib.extract_data,List.drop_zero,Nat.sub_zero]
  by_cases h8:S.size≤300
  ·rw [List.take_of_length_le (by omega),List.take_of_length_le (by omega)]
  congr 1; omega
 refine ⟨h8,?_⟩
 have h7:(S.extract 0 (min (S.size:Int) 300).toNat).data.toList.length=(S.extract 0 (min (S.size:Int) 300).toNat).size:=by rw [Array.length_toList]; rfl
 rw [← h7,h8,List.length_take]
 omega
theorem ws (S:ByteArray) (v:List UInt8) (h:S.data.toList=v):S.extract 0 (min (S.size:Int) 300).toNat=⟨(v.take 300).toArray⟩:=by
 have:=(t7 S).1
 generalize S.extract 0 (min (S.size:Int) 300).toNat=X at this ⊢
 subst h
 rw [← this]
theorem aj.stored_row {w0 w:World} {ps:List bf} {e:TypeId} {size g n cap:Nat} {xs:List Value} (h:aj w0 ps e size (.slice (some ⟨g,0,none⟩) n cap) n xs w) (j:Nat) (u:Value) :
  aj w0 ps e size (.slice (some ⟨g,0,none⟩) n cap) n (xs.set j u) (w.setCell ⟨g,j,none⟩ u) :=
 h.grown (h.own.stored j u).1 (h.own.stored j u).2 (.inr (.inl rfl))
theorem Bh (t0:List NdA) (a:Option Addr) (c:Nat) (w:World) (h:ap w a 11 (t0.map bd)) (hnc:t0.length≤c) (hc:c≤maxLen) :
  Calls prog 7 #[.slice a t0.length c] w fun e w'=>∃ u,e=.returned u∧w'.ownsRow w.heap.size 39 11 u (few t0).length (aX (few t0))∧Below w.heap.size w w':=by
 have hc':c≤9223372036854775807:=hc
 clear hc
 obtain ⟨n,hn⟩:=ex ((t0.take 300).length)
 have hn1:n=min t0.length 300:=by rw [← hn,List.length_take]; omega
 have HF:=keep (show few t0=(t0.take 300).map iJ from rfl)
 rw [show (few t0).length=n by unfold few; rw [List.length_map,hn]]
 have HR:=keep (show ap w a 11 ((t0.take 300).map bd) from by
  intro hne
  obtain ⟨b,o,e1,e2,e3⟩:=h (by intro e; rw [List.map_eq_nil_iff.1 e] at hne; exact hne rfl)
  refine ⟨b,o,e1,e2,fun i r hi=>e3 i r ?_⟩
  rw [List.map_take,List.getElem?_take] at hi
  split at hi
  ·exact hi
  cases hi)
 generalize few t0=f0 at HF ⊢
 clear h
 generalize t0.take 300=t at hn HF HR
 obtain ⟨n0,hn0⟩:=ex (t0.length)
 rw [hn0] at hn1 hnc ⊢
 clear hn0
 have hmin:min n0 300=n:=by omega
 have HN:=keep hn
 have hn300:n≤300:=by omega
 have hle:min (n0:Int) 300≤c:=by omega
 have h0le:0≤min (n0:Int) 300:=by omega
 go_enter func7,ntmps7
 go_wp2_with fail
 rw [show (min (n0:Int) 300).toNat=n by omega]
 rw [← HN.out]
 refine (sy t a c _ HR.out (by rw [HN.out]; omega)).mono ?_
 rintro e w1 ⟨u,rfl,hown,hb⟩
 rw [HN.out] at hown
 have HO:=Lib.hid (aj.of_new (Ok.start w) hb hown)
 clear hown hb HR hn hle h0le hmin hn1 hnc hc'
 by_cases hz:n=0
 ·subst hz
  have ht:t=[]:=List.length_eq_zero_iff.1 HN.out
  have hu:∃ ad cp,u=.slice ad 0 cp:=by
   rcases HO.out.own.2 with ⟨rfl,-⟩ | ⟨g,cap,cur,rfl,-⟩
   ·exact ⟨_,_,rfl⟩
   exact ⟨_,_,rfl⟩
  obtain ⟨ad,cp,rfl⟩:=hu
  have HFF:=keep (show aX f0=aX t by rw [HF.out,ht]; rfl)
  clear ht HF HN
  go_wp2_with fail
  go_loopw [4] (fun i wr=>i=.int .i64 0∧Hid (aj w [] 39 11 (.slice ad 0 cp) 0 (aX t) wr)) (fun i _=>0 - (intOf i).toNat)
  case atStart=>exact ⟨rfl,HO⟩
  case round =>
   obtain ⟨rfl,HO2⟩:=hrel
   go_wp2_with fail
   go_ret
   exact ⟨_,rfl,by rw [HFF.out]; exact HO2.out.own,HO2.out.ok.bel⟩
 obtain ⟨g,cap,rfl,-,-⟩:=HO.out.own.form (by omega)
 have hcap:=Lib.hid (show n≤cap by
  rcases HO.out.own.2 with ⟨h',-⟩ | ⟨g',cap',cur,h',-,-,h6,-⟩
  ·cases h'
  injection h' with h1 h2 h3; omega)
 go_wp2_with fail
 go_loopw [4] (fun i wr=>∃ k:Nat,k≤n∧i=.int .i64 (k:Int)∧Hid (aj w [] 39 11 (.slice (some ⟨g,0,none⟩) n cap) n (aX ((t.take k).map iJ++t.drop k)) wr)) (fun i _=>n - (intOf i).toNat)
 case atStart=>exact ⟨0,Nat.zero_le _,rfl,by simpa using HO⟩
 case round =>
  clear HO
  obtain ⟨k,hk,rfl,HO⟩:=hrel
  obtain ⟨wp,rfl⟩:∃ wp:World,wp=wr:=⟨_,rfl⟩
  by_cases hlt:(k:Int)<n
  ·have hil:k<t.length:=by rw [HN.out]; omega
   obtain ⟨S,hS⟩:∃ S:ByteArray,S=⟨(t[k]).vt.toArray⟩:=⟨_,rfl⟩
   have HSD:=keep (show S.data.toList=(t[k]).vt by rw [hS])
   have HCX:=keep (ws S _ HSD.out)
   have hx2:=(t7 S).2
   have HST:=keep (show (aX ((t.take k).map iJ++t.drop k)).set (k * 11+3) (.string (S.extract 0 (min (S.size:Int) 300).toNat))=aX ((t.take (k+1)).map iJ++t.drop (k+1)) by
    rw [HCX.out,yo _ k _ _ (ua t k hil),← ub t k hil]
    rfl)
   have HC3:=keep (show (aX ((t.take k).map iJ++t.drop k))[k * 11+3]?=some (.string S) by
    rw [hS]
    exact m8 bd 11 (fun _=>rfl) _ k _ (ua t k hil) 3 _ rfl)
   generalize aX ((t.take k).map iJ++t.drop k)=xs at HO HST HC3
   clear HCX HSD hS hil
   have hn9:k<n:=by omega
   have h31:k≤300:=by omega
   have HOX:=Lib.hid HO.out.drew
   clear hlt HO
   go_upto_region 5 with fail
   refine wp_region_any (by kernel_rfl) ?_
   change wpAny _ _ _ _ _ _ _ wp.drew
   generalize wp.drew=W1 at HOX ⊢
   have HO:=HOX
   clear HOX
   have c3:=HO.out.own.cells (g:=g) rfl _ _ HC3.out
   have f3:=HO.out.own.frozenAt (k * 11+3)
   rw [show (⟨g,0,none⟩:Addr).add (k * 11+3)=⟨g,k * 11+1+2,none⟩ by unfold Addr.add; simp] at c3
   rw [show k * 11+3=k * 11+1+2 from rfl] at f3
   have hcp:=hcap.out
   refine wtn (i:=0) (v:=?a1) rfl ?b1 ?c1
   case b1=>(intro w; go_simp; (try rw [if_neg (by omega)]); (try rw [if_pos (by omega)]); (try with_reducible rfl))
   try simp only [Act.put,wp1,wp2,wp3,wp4,wp6]
   refine wtn (i:=1) (v:=?a3) rfl ?b3 ?c3
   case b3=>(intro w; go_simp; (try rw [if_neg (by omega)]); (try rw [if_pos (by omega)]); (try with_reducible rfl))
   try simp only [Act.put,wp1,wp2,wp3,wp4,wp5,wp6]
   refine wtn (i:=2) (v:=?a5) rfl ?b5 ?c5
   case b5=>(intro w; go_simp; (try rw [if_neg (by omega)]); (try rw [if_pos (by omega)]); (try with_reducible rfl))
   try simp only [Act.put,wp1,wp2,wp3,wp4,wp5,wp6]
   refine wtn (i:=3) (v:=?a7) rfl ?b7 ?c7
   case b7=>(intro w; go_simp; (try rw [if_neg (by omega)]); (try rw [if_pos (by omega)]); (try with_reducible rfl))
   try simp only [Act.put,wp1,wp2,wp3,wp4,wp5,wp6]
   refine wtn (i:=4) (v:=?a9) rfl ?b9 ?c9
   case b9=>(intro w; go_simp; (try rw [if_neg (by omega)]); (try rw [if_pos (by omega)]); (try with_reducible rfl))
   try simp only [Act.put,wp1,wp2,wp3,wp4,wp5,wp6]
   refine wtn (i:=5) (v:=?a11) rfl ?b11 ?c11
   case b11=>(intro w; go_simp; (try rw [if_neg (by omega)]); (try rw [if_pos (by omega)]); (try with_reducible rfl))
   try simp only [Act.put,wp1,wp2,wp3,wp4,wp5,wp6]
   refine wtn (i:=6) (v:=?a13) rfl ?b13 ?c13
   case b13=>(intro w; go_simp; (try rw [if_neg (by omega)]); (try rw [if_pos (by omega)]); (try with_reducible rfl))
   try simp only [Act.put,wp1,wp2,wp3,wp4,wp5,wp6]
   refine wtn (i:=8) (v:=?a15) rfl ?b15 ?c15
   case b15=>(intro w; go_simp; (try rw [if_neg (by omega)]); (try rw [if_pos (by omega)]); (try with_reducible rfl))
   try simp only [Act.put,wp1,wp2,wp3,wp4,wp5,wp6]
   refine wtn (i:=9) (v:=?a17) rfl ?b17 ?c17
   case b17=>(intro w; go_simp; (try rw [if_neg (by omega)]); (try rw [if_pos (by omega)]); (try with_reducible rfl))
   try simp only [Act.put,wp1,wp2,wp3,wp4,wp5,wp6]
   refine wtn (i:=10) (v:=?a19) rfl ?b19 ?c19
   case b19=>(intro w; go_simp; (try rw [if_neg (by omega)]); (try rw [if_pos (by omega)]); (try with_reducible rfl))
   try simp only [Act.put,wp1,wp2,wp3,wp4,wp5,wp6]
   refine wtn (i:=11) (v:=?a21) rfl ?b21 ?c21
   case b21=>(intro w; go_simp; (try rw [if_neg (by omega)]); (try rw [if_pos (by omega)]); (try with_reducible rfl))
   try simp only [Act.put,wp1,wp2,wp3,wp4,wp5,wp6]
   refine wtn (i:=12) (v:=?a23) rfl ?b23 ?c23
   case b23=>(intro w; go_simp; (try rw [if_neg (by omega)]); (try rw [if_pos (by omega)]); (try with_reducible rfl))
   try simp only [Act.put,wp1,wp2,wp3,wp4,wp5,wp6]
   refine wpAny_ready (rs:=[7,13]) (by kernel_rfl) (by simp) ?_
   refine (AllReady.cons rfl (fun K hK => ?_) (AllReady.cons rfl (fun K hK => ?_) AllReady.nil))
   ·go_simp
    refine hK _ _ ?_
    clear hK K
    refine wm ?_
    refine wan 13 fun K hK => ?_
    ·go_simp
     refine hK _ _ ?_
     clear hK K
     refine wm ?_
     refine wtn (i:=14) (v:=?a27) rfl ?b27 ?c27
     case b27=>(intro w; go_simp; (try rw [if_neg (by omega)]); (try rw [if_pos (by omega)]); (try with_reducible rfl))
     try simp only [Act.put,wp1,wp2,wp3,wp4,wp5,wp6]
     refine wtn (i:=15) (v:=?a29) rfl ?b29 ?c29
     case b29=>(intro w; go_simp; (try rw [if_neg (by omega)]); (try rw [if_pos (by omega)]); (try with_reducible rfl))
     try simp only [Act.put,wp1,wp2,wp3,wp4,wp5,wp6]
     refine wtn (i:=16) (v:=?a31) rfl ?b31 ?c31
     case b31=>(intro w; go_simp; (try rw [if_neg (by omega)]); (try rw [if_pos (by omega)]); (try with_reducible rfl))
     try simp only [Act.put,wp1,wp2,wp3,wp4,wp5,wp6]
     refine wtn (i:=17) (v:=?a33) rfl ?b33 ?c33
     case b33=>(intro w; go_simp; (try rw [if_neg (by omega)]); (try rw [if_pos (by omega)]); (try with_reducible rfl))
     try simp only [Act.put,wp1,wp2,wp3,wp4,wp5,wp6]
     refine wtn (i:=18) (v:=?a35) rfl ?b35 ?c35
     case b35=>(intro w; go_simp; (try rw [if_neg (by omega)]); (try rw [if_pos (by omega)]); (try with_reducible rfl))
     try simp only [Act.put,wp1,wp2,wp3,wp4,wp5,wp6]
     refine wtn (i:=19) (v:=?a37) rfl ?b37 ?c37
     case b37=>(intro w; go_simp; (try rw [if_neg (by omega)]); (try rw [if_pos (by omega)]); (try with_reducible rfl))
     try simp only [Act.put,wp1,wp2,wp3,wp4,wp5,wp6]
     refine wan 20 fun K hK => ?_
     ·go_simp
      have HS:=Lib.hid (HO.out.stored_row (k * 11+3) (.string (S.extract 0 (min (S.size:Int) 300).toNat)))
      refine hK _ _ ?_
      clear hK K
      refine wm ?_
      refine wpAny_done (by kernel_rfl) ?_ _
      go_wp2_with fail
      go_roundw
      case rel=>exact ⟨k+1,by omega,by go_num,Lib.hid (by rw [← HST.out]; exact HS.out)⟩
      case measure=>simp [intOf]; omega
   go_simp
   refine hK _ _ ?_
   clear hK K
   refine wm ?_
   refine wtn (i:=14) (v:=?a41) rfl ?b41 ?c41
   case b41=>(intro w; go_simp; (try rw [if_neg (by omega)]); (try rw [if_pos (by omega)]); (try with_reducible rfl))
   try simp only [Act.put,wp1,wp2,wp3,wp4,wp5,wp6]
   refine wtn (i:=15) (v:=?a43) rfl ?b43 ?c43
   case b43=>(intro w; go_simp; (try rw [if_neg (by omega)]); (try rw [if_pos (by omega)]); (try with_reducible rfl))
   try simp only [Act.put,wp1,wp2,wp3,wp4,wp5,wp6]
   refine wan 7 fun K hK => ?_
   ·go_simp
    refine hK _ _ ?_
    clear hK K
    refine wm ?_
    refine wtn (i:=16) (v:=?a46) rfl ?b46 ?c46
    case b46=>(intro w; go_simp; (try rw [if_neg (by omega)]); (try rw [if_pos (by omega)]); (try with_reducible rfl))
    try simp only [Act.put,wp1,wp2,wp3,wp4,wp5,wp6]
    refine wtn (i:=17) (v:=?a48) rfl ?b48 ?c48
    case b48=>(intro w; go_simp; (try rw [if_neg (by omega)]); (try rw [if_pos (by omega)]); (try with_reducible rfl))
    try simp only [Act.put,wp1,wp2,wp3,wp4,wp5,wp6]
    refine wtn (i:=18) (v:=?a50) rfl ?b50 ?c50
    case b50=>(intro w; go_simp; (try rw [if_neg (by omega)]); (try rw [if_pos (by omega)]); (try with_reducible rfl))
    try simp only [Act.put,wp1,wp2,wp3,wp4,wp5,wp6]
    refine wtn (i:=19) (v:=?a52) rfl ?b52 ?c52
    case b52=>(intro w; go_simp; (try rw [if_neg (by omega)]); (try rw [if_pos (by omega)]); (try with_reducible rfl))
    try simp only [Act.put,wp1,wp2,wp3,wp4,wp5,wp6]
    refine wan 20 fun K hK => ?_
    ·go_simp
     have HS:=Lib.hid (HO.out.stored_row (k * 11+3) (.string (S.extract 0 (min (S.size:Int) 300).toNat)))
     refine hK _ _ ?_
     clear hK K
     refine wm ?_
     refine wpAny_done (by kernel_rfl) ?_ _
     go_wp2_with fail
     go_roundw
     case rel=>exact ⟨k+1,by omega,by go_num,Lib.hid (by rw [← HST.out]; exact HS.out)⟩
     case measure=>simp [intOf]; omega
  obtain rfl:n=k:=by omega
  have HFF:=keep (show aX f0=aX ((t.take n).map iJ++t.drop n) by
   rw [HF.out,List.take_of_length_le (by rw [HN.out]; exact Nat.le_refl _),List.drop_eq_nil_of_le (by rw [HN.out]; exact Nat.le_refl _),List.append_nil])
  go_wp2_with fail
  go_ret
  exact ⟨_,rfl,by rw [HFF.out]; exact HO.out.own,HO.out.ok.bel⟩
open Go.RowKit
theorem Ag {t:List NdA} (h:∀ n∈t,mQ n):ASz (few t) :=
 ⟨by have:=pV t; omega,fun a ha=>by have:=(lk h a ha).2; omega,fun a ha=>(lk h a ha).1.num.2⟩
set_option maxRecDepth 100000
set_option maxHeartbeats 8000000
def jP (l:List Nat):List Int:=l.map fun x:Nat=>(x:Int)
def ma (t:List Nd) (i m:Nat):List Int:=nA (gj t i++[-1]) ((ae t i).take m) i
theorem vh (t:List Nd) (i m:Nat):(ma t i m).length=i+1:=by unfold ma; rw [lL,List.length_append,ed]; rfl
theorem s6 {t:List Nd} {i m r:Nat} (h:(ae t i)[m]?=some r):(ma t i m).set r (i:Int)=ma t i (m+1):=by
 have hlt:=(List.getElem?_eq_some_iff.1 h).1
 have he:=(List.getElem?_eq_some_iff.1 h).2
 unfold ma nA
 rw [List.take_succ_eq_append_getElem hlt,List.foldl_append,he]
 rfl
theorem vg (t:List Nd) (i m:Nat) (h:(ae t i).length≤m):ma t i m=gj t (i+1):=by
 unfold ma
 rw [List.take_of_length_le h]
 rfl
theorem uG (l:List Int):∀ u∈cz l,u.oneCell'=true:=by
 intro u hu
 unfold cz at hu
 obtain ⟨x,-,rfl⟩:=List.mem_map.1 hu
 rfl
theorem aj.swapR {w0 w:World} {e e':TypeId} {s s' n n':Nat} {v v':Value} {xs xs':List Value} (h:aj w0 [aT w0.heap.size e' s' v' n' xs'] e s v n xs w):aj w0 [aT w0.heap.size e s v n xs] e' s' v' n' xs' w :=
 ⟨⟨h.ok.bel,fun x hx=>by rw [List.mem_singleton] at hx; subst hx; exact h.own⟩,h.ok.get (aT w0.heap.size e' s' v' n' xs') (by simp),fun x hx=>by
  rw [List.mem_singleton] at hx
  subst hx
  have h1:v'.ownBlock=none∨v'.ownBlock≠v.ownBlock:=h.far (aT w0.heap.size e' s' v' n' xs') (by simp)
  show v.ownBlock=none∨v.ownBlock≠v'.ownBlock
  rcases h1 with h1 | h1
  ·by_cases h2:v.ownBlock=none
   ·exact .inl h2
   exact .inr (by rw [h1]; exact h2)
  exact .inr (fun e=>h1 e.symm)⟩
theorem uF (a b:List Int):cz (a++b)=cz a++cz b:=by unfold cz; rw [List.map_append]
theorem uH (l:List Int) (j:Nat) (x:Int):(cz l).set j (.int .i64 x)=cz (l.set j x):=by unfold cz; rw [List.map_set]
theorem mG (t:List Nd):∀ i,i≤t.length→(an t i).length≤i
 | 0,_=>by
  have:=(eM t 0).2
  cases h:an t 0 with
  | nil=>exact Nat.le_refl _
  | cons r l=>have:=this r (by rw [h]; simp); omega
 | i+1,h=>by
  rw [cx (List.getElem?_eq_getElem (show i<t.length by omega)),List.length_append,List.length_take]
  have:=mG t i (by omega)
  show _+1≤_
  omega
theorem nL {W:World} {B B' n m:Nat} {v s:Value} {xs news:List Value} (hv:W.ownsRow B 3 1 v n xs) (hs:W.ownsRow B' 3 1 s m news) (h1:∀ u∈news,u.oneCell'=true) (hB:B≤W.heap.size) (hn:n+m≤4194304) :
  ∃ v' w',(Builtin.append_ #[57,57] 57 #[v,s]).run prog W=.ok v' w'∧w'.ownsRow B 3 1 v' (n+m) (xs++news)∧W.grownBy w' v.ownBlock∧(v'.ownBlock=none∨v'.ownBlock=v.ownBlock∨v'.ownBlock=some W.heap.size):=by
 obtain ⟨i0,hi0,hz0,hz1,hzb⟩:=info_parts ic
 have hc:=@World.ownsRow.cells _ _ _ _ _ _ _ hs
 have hlen:=hs.1
 rcases hs.2 with ⟨rfl,rfl⟩ | ⟨g,cap,cur,rfl,_⟩
 ·obtain rfl:news=[]:=List.eq_nil_of_length_eq_zero (by simpa using hlen)
  refine ⟨v,W,run_append_owned_none (P:=prog) (w:=W) B 57 57 3 i0 1 underlying57 hi0 v n xs hv,by rw [List.append_nil]; exact hv,⟨rfl,rfl,rfl,Nat.le_refl _,fun _ _ _=>rfl⟩,.inr (.inl rfl)⟩
 obtain ⟨v',w',hr,ho,hg,_,hat⟩:=run_append_own_at (P:=prog) W B 57 57 3 i0 _ 1 8 underlying57 hi0 hz0 hz1 hzb rfl (by omega) v n xs hv ⟨g,0,none⟩ m cap news hlen (hc rfl) h1 (by unfold maxLen; omega) (by omega) hB
 exact ⟨v',w',hr,ho,hg,.inr hat⟩
theorem nw (t:List Nd) (ta:Option Addr) (tc:Nat) (w:World) (ht:ap w ta 11 (t.map bj)) (htl:t.length≤1000) (hkids:∀ k n,t[k]?=some n→al n≤(an t k).length) :
  Calls prog 28 #[.slice ta t.length tc] w fun e w'=>∃ v,e=.returned v∧w'.ownsRow w.heap.size 3 1 v t.length (cz (gj t t.length))∧Below w.heap.size w w':=by
 obtain ⟨j0,ji,jz0,jz1,jz2⟩:=info_parts ic
 have HT:=keep ht
 have HK:=keep hkids
 obtain ⟨n,hn⟩:=ex (t.length)
 rw [hn] at htl ⊢
 have HN:=keep hn
 clear ht hkids hn
 have H0:=Lib.hid (aj.start ((Ok.start w).add (aT w.heap.size 3 1 (.slice none 0 0) 0 []) (World.ownsRow_nil _ _ _ _)) 3 1)
 go_enter func28,ntmps28
 go_wp2_with fail
 go_loopw [3,4,5] (fun ov rv iv wr=>∃ i:Nat,i≤n∧iv=.int .i64 (i:Int)∧Hid (aj w [aT w.heap.size 3 1 rv (an t i).length (cz (jP (an t i)))] 3 1 ov i (cz (gj t i)) wr)) (fun _ _ iv _=>n - (intOf iv).toNat)
 case atStart=>exact ⟨0,Nat.zero_le _,rfl,H0⟩
 case round =>
  clear H0
  obtain ⟨i,hi,rfl,HR⟩:=hrel
  obtain ⟨wp,rfl⟩:∃ wp:World,wp=wr:=⟨_,rfl⟩
  obtain ⟨ov,rfl⟩:∃ ov:Value,ov=u3:=⟨_,rfl⟩
  obtain ⟨rv,rfl⟩:∃ rv:Value,rv=u4:=⟨_,rfl⟩
  by_cases hlt:(i:Int)<(n:Int)
  ·have hil:i<t.length:=by rw [HN.out]; omega
   obtain ⟨x,hx⟩:=ex (t[i])
   have hxs:t[i]?=some x:=by rw [List.getElem?_eq_getElem hil,hx]
   obtain ⟨b1,o1,ha,hB,hc⟩:=ip HT.out (i:=i) (r:=bj x) (by rw [List.getElem?_map,hxs]; rfl)
   subst ha
   have hbl:=HK.out i x hxs
   have HKE:=keep (cZ hxs)
   have HRS:=keep (cx hxs)
   have hrl:∀ r∈an t i,r<i:=(eM t i).2
   have HRL:=keep hrl
   obtain ⟨R,hR⟩:=ex ((an t i).length)
   have HRR:=keep hR
   rw [hR] at HR hbl
   obtain ⟨d,hd⟩:=ex (al x)
   rw [hd] at hbl
   have HD:=keep hd
   have hR1:R≤1000:=by
    have:=mG t i (by omega)
    omega
   clear hx hrl hR hd
   have hro:=HR.out.ok.get (aT w.heap.size 3 1 rv R (cz (jP (an t i)))) (by simp)
   obtain ⟨ar,cr,hrv⟩:=aO hro
   subst hrv
   clear hro
   have H1:=Lib.hid (HR.out.alloc_obj (.cells #[.int .i64 (-1)] 3))
   go_upto_region 6 with (at_builtin; refine wpList_append_lies _ rfl _ _ _ rfl w.heap.size 3 j0 _ 1 8 underlying57 ji jz0 jz1 jz2 rfl (by omega) _ _ _ rfl H1.out.own ⟨wp.heap.size,0,none⟩ 1 1 [.int .i64 (-1)] rfl rfl (World.news_of_block (cs:=#[.int .i64 (-1)]) (t:=3) (fr:=(0,0)) (heap_alloc_new _ _)) (by intro u hu; simp at hu; rcases hu with rfl; rfl) (by omega) (by unfold maxLen; omega) (by omega) (by have:=HR.out.ok.bel.size; simp; omega) _ rfl ?_; intro g5 cap5 w5 hown5 hgrow5 hat5 hlt5)
   have H5:=Lib.hid (H1.out.appended hown5 hgrow5 hat5)
   clear H1 HR hown5 hgrow5 hat5
   have hfc:=ea H5.out.ok.bel hB hc
   clear hc hB
   obtain ⟨xk,xvk,xvn,xvt,⟨x1,x2,x3,x4⟩,xop,xfn,xn⟩:=x
   simp only [bj,ag,Nat.add_zero,Nat.reduceAdd] at hfc
   obtain ⟨z0,c0,c1,c2,c3,c4,c5,c6,c7,c8,c9,c10,-⟩:=hfc
   obtain ⟨fr,hfr⟩:∃ fr,R=fr+d:=⟨R - d,by omega⟩
   have hsub:(R:Int) - (d:Int)=(fr:Int):=by omega
   go_wp2_with fail
   refine (eL ⟨xk,xvk,xvn,xvt,⟨x1,x2,x3,x4⟩,xop,xfn,xn⟩ _).mono ?_
   rintro e w6 ⟨rfl,hb⟩
   rw [HD.out]
   clear z0 c0 c1 c2 c3 c4 c5 c6 c7 c8 c9 c10
   have H6:=Lib.hid (H5.out.below hb)
   clear H5 hb
   go_wp2_with fail
   have HPK:=keep (show ma t i 0=gj t i++[-1] from rfl)
   go_loopw [7] (fun kv wq=>∃ m:Nat,m≤d∧kv=.int .i64 ((fr+m:Nat):Int)∧Hid (aj w [aT w.heap.size 3 1 (.slice ar R cr) R (cz (jP (an t i)))] 3 1 (.slice (some ⟨g5,0,none⟩) (i+1) cap5) (i+1) (cz (ma t i m)) wq)) (fun kv _=>R - (intOf kv).toNat)
   case atStart=>exact ⟨0,Nat.zero_le _,rfl,Lib.hid (by rw [HPK.out,uF]; exact H6.out)⟩
   case round =>
    clear H6 HPK
    obtain ⟨m,hm,rfl,HQ⟩:=hrel
    obtain ⟨wq,rfl⟩:∃ wq:World,wq=wr:=⟨_,rfl⟩
    have hro:=HQ.out.ok.get (aT w.heap.size 3 1 (.slice ar R cr) R (cz (jP (an t i)))) (by simp)
    by_cases hmd:m<d
    ·obtain ⟨r,hr⟩:∃ r,(ae t i)[m]?=some r:=⟨_,List.getElem?_eq_getElem (by rw [HKE.out,List.length_drop,HRR.out,HD.out]; omega)⟩
     have hrr:(an t i)[fr+m]?=some r:=by
      rw [HKE.out,List.getElem?_drop,HRR.out,HD.out,show R - d=fr by omega] at hr
      exact hr
     have HPS:=keep (s6 hr)
     have hri:r<i:=HRL.out r (List.mem_of_getElem? hrr)
     obtain ⟨g4,cap4,e4,-,-⟩:=hro.form (by omega)
     injection e4 with e5 e6 e7
     subst e5 e7
     have c4:=hro.cells (g:=g4) rfl (fr+m) (.int .i64 (r:Int)) (by unfold cz jP; rw [List.map_map,List.getElem?_map,hrr]; rfl)
     rw [show (⟨g4,0,none⟩:Addr).add (fr+m)=⟨g4,fr+m,none⟩ by unfold Addr.add; split <;> simp_all] at c4
     have c5:=HQ.out.own.cells (g:=g5) rfl r _ (List.getElem?_eq_getElem (show r<(cz (ma t i m)).length by unfold cz; rw [List.length_map,vh]; omega))
     rw [show (⟨g5,0,none⟩:Addr).add r=⟨g5,r,none⟩ by unfold Addr.add; split <;> simp_all] at c5
     have f5:=HQ.out.own.frozenAt r
     have hmr:((fr+m:Nat):Int)<(R:Int):=by omega
     have hri2:(r:Int)<((i:Int)+1):=by omega
     have hrn:r<i+1:=by omega
     have HS:=Lib.hid (HQ.out.stored_row r (.int .i64 (i:Int)))
     clear hr hrr hro
     go_wp2_with fail
     go_roundw
     case rel=>exact ⟨m+1,by omega,by go_num,Lib.hid (by rw [← HPS.out,← uH]; exact HS.out)⟩
     case measure=>simp [intOf]; omega
    obtain rfl:m=d:=by omega
    have HPE:=keep (vg t i m (by rw [HKE.out,List.length_drop,HRR.out,HD.out]; omega))
    have HX:=Lib.hid (show aj w [aT w.heap.size 3 1 (.slice (some ⟨g5,0,none⟩) (i+1) cap5) (i+1) (cz (gj t (i+1)))] 3 1 (.slice ar R cr) R (cz (jP (an t i))) wq from by
     have h9:=HQ.out
     rw [HPE.out] at h9
     exact h9.swapR)
    clear HQ HPE
    have hcut:wq.ownsRow w.heap.size 3 1 (.slice ar fr cr) fr (cz (jP ((an t i).take fr))):=by
     rcases hro.2 with ⟨e,h0⟩ | ⟨g4,cap4,cur,e,-⟩
     ·injection e with e1 e2 e3
      subst e1 e2 e3
      obtain rfl:fr=0:=by omega
      exact World.ownsRow_nil _ _ _ _
     injection e with e1 e2 e3
     subst e1 e3
     have h9:=gG hro (show fr≤R by omega)
     rw [Nat.mul_one] at h9
     have e9:cz (jP ((an t i).take fr))=(cz (jP (an t i))).take fr:=by unfold cz jP; rw [List.map_take,List.map_take]
     rw [e9]
     exact h9
    have hcrR:R≤cr:=by
     rcases hro.2 with ⟨e,h0⟩ | ⟨g4,cap4,cur,e,-,-,h6,-⟩
     ·injection e with e1 e2 e3; omega
     injection e with e1 e2 e3; omega
    have hfrc:(fr:Int)≤(cr:Int):=by omega
    have hbel:=HX.out.ok.bel
    have hW1:(wq.alloc (.cells #[] 3)).ownsRow w.heap.size 3 1 (.slice (some ⟨wq.heap.size,0,none⟩) 0 0) 0 []:=World.ownsRow_lit _ #[] 0 hbel.size (Nat.zero_le _) rfl
    have HO1:=Lib.hid (show aj w [aT w.heap.size 3 1 (.slice (some ⟨g5,0,none⟩) (i+1) cap5) (i+1) (cz (gj t (i+1)))] 3 1 (.slice (some ⟨wq.heap.size,0,none⟩) 0 0) 0 [] (wq.alloc (.cells #[] 3)) from ⟨HX.out.ok.alloc_obj _,hW1,fun x hx=>by
     rw [List.mem_singleton] at hx
     exact x.new wq _ (Nat.le_refl _) (HX.out.ok.all x (by rw [hx]; simp))⟩)
    obtain ⟨v7,w7,hr7,ho7,hg7,hat7⟩:=nL hW1 (hcut.alloc _) (uG _) (by rw [World.size_alloc]; have:=hbel.size; omega) (by omega)
    have HO7:=Lib.hid (HO1.out.grown ho7 hg7 hat7)
    clear ho7 hg7 hat7 hW1 hcut HO1 hro hbel HX
    go_wp2_with (at_builtin; first | (refine gU rfl _ _ _ rfl _ _ rfl rfl hr7 ?_; clear hr7) | (refine wpList_append_lies _ rfl _ _ _ rfl w.heap.size 3 j0 _ 1 8 underlying57 ji jz0 jz1 jz2 rfl (by omega) _ _ _ rfl (HO7.out.own.alloc _) ⟨w7.heap.size,0,none⟩ 1 1 [.int .i64 (i:Int)] rfl rfl (World.news_of_block (cs:=#[.int .i64 (i:Int)]) (t:=3) (fr:=(0,0)) (heap_alloc_new _ _)) (by intro u hu; simp at hu; rcases hu with rfl; rfl) (by omega) (by unfold maxLen; omega) (by omega) (by have:=HO7.out.ok.bel.size; simp; omega) _ rfl ?_; intro g9 cap9 w9 hown9 hgrow9 hat9 hlt9))
    have HO9:=Lib.hid ((HO7.out.alloc_obj (.cells #[.int .i64 (i:Int)] 3)).appended hown9 hgrow9 hat9)
    clear HO7 hown9 hgrow9 hat9
    have HRN:=keep (show an t (i+1)=(an t i).take fr++[i] by
     rw [HRS.out,HRR.out,HD.out,show R - m=fr by omega])
    have HRM:=keep (show ((an t i).take fr).length=fr by rw [List.length_take,HRR.out]; omega)
    go_roundw
    case rel =>
     refine ⟨i+1,by omega,by go_num,Lib.hid ?_⟩
     have h9:=HO9.out.swapR
     rw [HRN.out,List.length_append,HRM.out]
     have e9:cz (jP ((an t i).take fr++[i]))=[]++cz (jP ((an t i).take fr))++[.int .i64 (i:Int)]:=by
      unfold cz jP
      rw [List.map_append,List.map_append,List.nil_append]
      rfl
     rw [e9]
     simpa using h9
    case measure=>simp [intOf]; omega
  obtain rfl:n=i:=by omega
  go_wp2_with fail
  go_ret
  exact ⟨_,rfl,HR.out.own,HR.out.ok.bel⟩
