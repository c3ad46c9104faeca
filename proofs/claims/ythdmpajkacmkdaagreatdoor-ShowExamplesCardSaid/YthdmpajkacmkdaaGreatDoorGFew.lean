/- The reference's Under: the nodes directly below one, by the parents of all. Plain: the parents of a tree's nodes, and what stands below a node by them. No program stands here. The statements' Few. ShowBack, ShowDiffers: the walks. -/
import Derived.Test.YthdmpajkacmkdaaGreatDoorGOut
import Derived.Test.YthdmpajkacmkdaaGreatDoorGTg
import Derived.Test.YthdmpajkacmkdaaGreatDoorGRft
import Derived.Test.YthdmpajkacmkdaaGreatDoorGShc
import Derived.Test.YthdmpajkacmkdaaGreatDoorGRds
namespace Go.Proofs.YthdmpajkacmkdaaGreatDoor
set_option maxRecDepth 100000
set_option maxHeartbeats 4000000
open Go.RowKit Go.Proofs.Tryz
def xM (l:List Int):List (List Value):=l.map fun x=>[.int .i64 x]
def cC (l:List Int):List Value:=l.map fun x=>.int .i64 x
theorem tq (l:List Int):cC l=l.flatMap fun x=>[.int .i64 x]:=by
 unfold cC
 induction l with
 | nil=>rfl
 | cons x l ih=>rw [List.map_cons,List.flatMap_cons,ih]; rfl
theorem tu (l:List Int) (x:Int):cC (l++[x])=cC l++[.int .i64 x]:=by unfold cC; rw [List.map_append]; rfl
theorem vb {w:World} {base:Nat} {v:Value} {l:List Int} (h:w.ownsRow base 3 1 v l.length (cC l)):∃ a c,v=.slice a l.length c∧l.length≤c∧ax w a 1 (xM l):=by
 rw [tq] at h
 obtain ⟨a,c,h1,h2,-,h4⟩:=fN (fun x=>[Value.int .i64 x]) (fun _=>rfl) h rfl
 exact ⟨a,c,h1,h2,h4⟩
def cK (ps:List Int) (i:Nat):Nat→List Int
 | 0=>[]
 | k+1=>if ps[k]?=some (i:Int) then cK ps i k++[(k:Int)] else cK ps i k
theorem ue (ps:List Int) (i k:Nat):(cK ps i k).length≤k:=by
 induction k with
 | zero=>exact Nat.le_refl _
 | succ k ih =>
  unfold cK
  split
  ·rw [List.length_append]; show _+1≤_; omega
  omega
theorem q6 (ps:List Int) (a:Option Addr) (c i:Nat) (w:World) (hl:ps.length≤1000) (hi:i≤ps.length) (hr:ax w a 1 (xM ps)) :
  Calls prog 47 #[.slice a ps.length c,.int .i64 (i:Int)] w fun e w'=>∃ v,e=.returned v∧w'.ownsRow w.heap.size 3 1 v (cK ps i i).length (cC (cK ps i i))∧Below w.heap.size w w':=by
 obtain ⟨j0,ji,jz0,jz1,jz2⟩:=info_parts ix
 have HR:=keep hr
 obtain ⟨n,hn⟩:=ex (ps.length)
 rw [hn] at hl hi ⊢
 have HN:=keep hn
 clear hr hn
 have H0:=Lib.hid (ai.start (Ok.start w) 3 1)
 go_enter func47,ntmps47
 go_wp2_with fail
 go_loopw [5,6] (fun ov kv wr=>∃ k:Nat,k≤i∧kv=.int .i64 (k:Int)∧Hid (ai w [] 3 1 ov (cK ps i k).length (cC (cK ps i k)) wr)) (fun _ kv _=>i - (intOf kv).toNat)
 case atStart=>exact ⟨0,Nat.zero_le _,rfl,H0⟩
 case round =>
  clear H0
  obtain ⟨k,hk,rfl,HK⟩:=hrel
  obtain ⟨wp,rfl⟩:∃ wp:World,wp=wr:=⟨_,rfl⟩
  obtain ⟨ov,rfl⟩:∃ ov:Value,ov=u5:=⟨_,rfl⟩
  by_cases hlt:(k:Int)<(i:Int)
  ·have hkl:k<ps.length:=by rw [HN.out]; omega
   obtain ⟨x,hx⟩:=ex (ps[k])
   have hxs:ps[k]?=some x:=by rw [List.getElem?_eq_getElem hkl,hx]
   obtain ⟨b1,o1,ha,hB,hc⟩:=fj HR.out (i:=k) (r:=[.int .i64 x]) (by unfold xM; rw [List.getElem?_map,hxs]; rfl)
   subst ha
   have g1:=(HK.out.ok.bel.cell hB).trans (hc 0 _ rfl)
   rw [Nat.mul_one,Nat.add_zero] at g1
   have hb1:b1<wp.heap.size:=Nat.lt_of_lt_of_le hB HK.out.ok.bel.size
   have hkc:k<n:=by rw [← HN.out]; exact hkl
   have hkn:(k:Int)<(n:Int):=by omega
   have hol:=ue ps i k
   clear hc hx
   by_cases he:x=(i:Int)
   ·have HS:=keep (show cK ps i (k+1)=cK ps i k++[(k:Int)] by rw [cK,if_pos (by rw [hxs,he])])
    have hef:(x == (i:Int))=true:=by simp [he]
    clear hxs he
    obtain ⟨m,hm⟩:=ex ((cK ps i k).length)
    have HM:=keep hm
    rw [hm] at HK hol
    clear hm
    have HK1:=Lib.hid (HK.out.alloc_obj (.cells #[.int .i64 (k:Int)] 3))
    go_wp2_with (at_builtin; refine wpList_append_lies _ rfl _ _ _ rfl w.heap.size 3 j0 _ 1 8 underlying50 ji jz0 jz1 jz2 rfl (by omega) _ _ _ rfl HK1.out.own ⟨wp.heap.size,0,none⟩ 1 1 [.int .i64 (k:Int)] rfl rfl (World.news_of_block (cs:=#[.int .i64 (k:Int)]) (t:=3) (fr:=(0,0)) (heap_alloc_new _ _)) (by intro u hu; simp at hu; rcases hu with rfl; rfl) (by omega) (by unfold maxLen; omega) (by omega) (by have:=HK.out.ok.bel.size; simp; omega) _ rfl ?_; intro g5 cap5 w5 hown5 hgrow5 hat5 hlt5)
    have HK5:=Lib.hid (HK1.out.appended hown5 hgrow5 hat5)
    clear HK HK1 hown5 hgrow5 hat5
    go_roundw
    case rel=>exact ⟨k+1,by omega,by go_num,by rw [HS.out,tu,List.length_append,HM.out]; exact HK5⟩
    case measure=>simp [intOf]; omega
   have HS:=keep (show cK ps i (k+1)=cK ps i k by rw [cK,if_neg (by rw [hxs]; intro h; exact he (Option.some.inj h))])
   have hef:(x == (i:Int))=false:=beq_eq_false_iff_ne.2 he
   clear hxs he
   go_wp2_with fail
   go_roundw
   case rel=>exact ⟨k+1,by omega,by go_num,by rw [HS.out]; exact HK⟩
   case measure=>simp [intOf]; omega
  obtain rfl:k=i:=by omega
  go_wp2_with fail
  go_ret
  exact ⟨_,rfl,HK.out.own,HK.out.ok.bel⟩
open Go.RowKit
theorem me:∀ {a b:List Nat},a.Pairwise (· < ·)→b.Pairwise (· < ·)→(∀ x,x∈a↔x∈b)→a=b
 | [],[],_,_,_=>rfl
 | [],y::b,_,_,h=>absurd ((h y).2 (by simp)) (by simp)
 | x::a,[],_,_,h=>absurd ((h x).1 (by simp)) (by simp)
 | x::a,y::b,ha,hb,h=>by
  rw [List.pairwise_cons] at ha hb
  have hxy:x=y:=by
   rcases List.mem_cons.1 ((h x).1 (by simp)) with e | e
   ·exact e
   have h1:=hb.1 x e
   rcases List.mem_cons.1 ((h y).2 (by simp)) with e2 | e2
   ·omega
   have:=ha.1 y e2; omega
  subst hxy
  rw [me ha.2 hb.2 fun z => ?_]
  constructor
  ·intro hz
   rcases List.mem_cons.1 ((h z).1 (by simp [hz])) with e | e
   ·have:=ha.1 z hz; omega
   exact e
  intro hz
  rcases List.mem_cons.1 ((h z).2 (by simp [hz])) with e | e
  ·have:=hb.1 z hz; omega
  exact e
def nW (o:List Int) (rs:List Nat) (i:Nat):List Int:=rs.foldl (fun o r=>o.set r (i:Int)) o
def gz (t:List Nd):Nat→List Int
 | 0=>[]
 | k+1=>nW (gz t k++[-1]) (ae t k) k
theorem l9:∀ (rs:List Nat) (o:List Int) (i:Nat),(nW o rs i).length=o.length
 | [],_,_=>rfl
 | r::rs,o,i=>by
  show (nW (o.set r i) rs i).length=_
  rw [l9 rs,List.length_set]
theorem pF:∀ (rs:List Nat) (o:List Int) (i k:Nat),(nW o rs i)[k]?=if k∈rs∧k<o.length then some (i:Int) else o[k]?
 | [],o,i,k=>by
  rw [if_neg (by simp)]
  rfl
 | r::rs,o,i,k=>by
  show (nW (o.set r i) rs i)[k]?=_
  rw [pF rs,List.length_set]
  by_cases hk:k<o.length
  ·by_cases h1:k∈rs
   ·rw [if_pos ⟨h1,hk⟩,if_pos ⟨by simp [h1],hk⟩]
   rw [if_neg (fun h=>h1 h.1)]
   by_cases h2:k=r
   ·subst h2
    rw [if_pos ⟨by simp,hk⟩,List.getElem?_set_self hk]
   rw [if_neg (by rintro ⟨h,-⟩; rcases List.mem_cons.1 h with h | h; exact h2 h; exact h1 h),List.getElem?_set_ne (fun e=>h2 e.symm)]
  rw [if_neg (fun h=>hk h.2),if_neg (fun h=>hk h.2),List.getElem?_eq_none (by rw [List.length_set]; omega),List.getElem?_eq_none (by omega)]
theorem eh (t:List Nd):∀ m,(gz t m).length=m
 | 0=>rfl
 | m+1=>by
  show (nW _ _ _).length=_
  rw [l9,List.length_append,eh t m]
  rfl
theorem kl (t:List Nd) (m k:Nat):(gz t (m+1))[k]?=if k∈ae t m then some (m:Int) else if k<m then (gz t m)[k]? else if k=m then some (-1) else none:=by
 show (nW _ _ _)[k]?=_
 rw [pF,List.length_append,eh]
 by_cases h:k∈ae t m
 ·have:=bw t m k h
  rw [if_pos ⟨h,by show k<m+1; omega⟩,if_pos h]
 rw [if_neg (fun g=>h g.1),if_neg h]
 by_cases h1:k<m
 ·rw [if_pos h1,List.getElem?_append_left (by rw [eh]; exact h1)]
 rw [if_neg h1,List.getElem?_append_right (by rw [eh]; omega),eh]
 by_cases h2:k=m
 ·rw [if_pos h2,h2,Nat.sub_self]; rfl
 rw [if_neg h2,List.getElem?_eq_none (by show 1≤k - m; omega)]
theorem vK (t:List Nd):∀ m,m≤t.length→(∀ r∈ao t m,(gz t m)[r]?=some (-1))∧(∀ i,i<m→∀ k,(gz t m)[k]?=some (i:Int)↔k∈ae t i)∧∀ k j:Nat,(gz t m)[k]?=some (j:Int)→j<m:=by
 intro m
 induction m with
 | zero =>
  intro _
  refine ⟨fun r hr => ?_,fun i hi=>absurd hi (by omega),fun k j h=>by cases h⟩
  have:=(eS t 0).2 r hr
  omega
 | succ m ih =>
  intro hm
  obtain ⟨ha,hb,hc⟩:=ih (by omega)
  have hn:t[m]?=some t[m]:=List.getElem?_eq_getElem (by omega)
  have hK:=db hn
  have hR:=cA hn
  have hsort:=(eS t m).1
  have hdis:∀ r∈(ao t m).take ((ao t m).length - am t[m]),r∉ae t m:=by
   intro r hr hr2
   rw [hK] at hr2
   have h1:=hsort
   rw [← List.take_append_drop ((ao t m).length - am t[m]) (ao t m),List.pairwise_append] at h1
   have:=h1.2.2 r hr r hr2
   omega
  refine ⟨fun r hr => ?_,fun i hi k => ?_,fun k j h => ?_⟩
  ·rw [kl]
   rw [hR] at hr
   rcases List.mem_append.1 hr with hr | hr
   ·rw [if_neg (hdis r hr),if_pos ((eS t m).2 r (List.mem_of_mem_take hr))]
    exact ha r (List.mem_of_mem_take hr)
   rw [List.mem_singleton] at hr
   subst hr
   rw [if_neg (fun h=>by have:=bw t r r h; omega),if_neg (Nat.lt_irrefl _),if_pos rfl]
  ·rw [kl]
   by_cases hk:k∈ae t m
   ·rw [if_pos hk]
    have hroot:k∈ao t m:=by rw [hK] at hk; exact List.mem_of_mem_drop hk
    rcases Nat.lt_or_ge i m with h | h
    ·constructor
     ·intro e
      have e:=Option.some.inj e
      omega
     intro e
     have h1:=(hb i h k).2 e
     rw [ha k hroot] at h1
     have h1:=Option.some.inj h1
     omega
    obtain rfl:i=m:=by omega
    exact ⟨fun _=>hk,fun _=>rfl⟩
   rw [if_neg hk]
   by_cases h1:k<m
   ·rw [if_pos h1]
    rcases Nat.lt_or_ge i m with h | h
    ·exact hb i h k
    obtain rfl:i=m:=by omega
    exact ⟨fun e=>absurd (hc k i e) (Nat.lt_irrefl _),fun e=>absurd e hk⟩
   rw [if_neg h1]
   have hno:k∉ae t i:=fun e=>by have:=bw t i k e; omega
   by_cases h2:k=m
   ·rw [if_pos h2]
    exact ⟨fun e=>(by have e:=Option.some.inj e; omega),fun e=>absurd e hno⟩
   rw [if_neg h2]
   exact ⟨fun e=>(by cases e),fun e=>absurd e hno⟩
  rw [kl] at h
  split at h
  ·have h:=Option.some.inj h; omega
  split at h
  ·have:=hc k j h; omega
  split at h
  ·have h:=Option.some.inj h; omega
  cases h
theorem pO (ps:List Int) (i:Nat):∀ k,cK ps i k=((List.range k).filter fun j=>decide (ps[j]?=some (i:Int))).map fun j:Nat=>(j:Int)
 | 0=>rfl
 | k+1=>by
  rw [cK,pO ps i k,List.range_succ,List.filter_append,List.map_append]
  by_cases h:ps[k]?=some (i:Int)
  ·rw [if_pos h,List.filter_cons_of_pos (by simpa using h)]; rfl
  rw [if_neg h,List.filter_cons_of_neg (by simpa using h)]; simp
theorem rz {t:List Nd} {i:Nat} (hi:i<t.length):cK (gz t t.length) i i=(ae t i).map fun k:Nat=>(k:Int):=by
 rw [pO]
 congr 1
 refine me ((List.pairwise_lt_range (n:=i)).filter _) ?_ fun x => ?_
 ·have hn:t[i]?=some t[i]:=List.getElem?_eq_getElem hi
  rw [db hn]
  exact (eS t i).1.sublist (List.drop_sublist _ _)
 rw [List.mem_filter,List.mem_range]
 simp only [decide_eq_true_eq]
 rw [(vK t t.length (Nat.le_refl _)).2.1 i hi x]
 exact ⟨fun h=>h.2,fun h=>⟨bw t i x h,h⟩⟩
set_option maxRecDepth 100000
set_option maxHeartbeats 8000000
theorem nB (S:ByteArray):(S.extract 0 (min (S.size:Int) 300).toNat).data.toList=S.data.toList.take 300∧(S.extract 0 (min (S.size:Int) 300).toNat).size≤300:=by
 have h9:S.data.toList.length=S.size:=by rw [Array.length_toList]; rfl
 have h8:(S.extract 0 (min (S.size:Int) 300).toNat).data.toList=S.data.toList.take 300:=by
  rw [Lib.extract_data,List.drop_zero,Nat.sub_zero]
  by_cases h8:S.size≤300
  ·rw [List.take_of_length_le (by omega),List.take_of_length_le (by omega)]
  congr 1; omega
 refine ⟨h8,?_⟩
 have h7:(S.extract 0 (min (S.size:Int) 300).toNat).data.toList.length=(S.extract 0 (min (S.size:Int) 300).toNat).size:=by rw [Array.length_toList]; rfl
 rw [← h7,h8,List.length_take]
 omega
theorem rK (S:ByteArray) (v:List UInt8) (h:S.data.toList=v):S.extract 0 (min (S.size:Int) 300).toNat=⟨(v.take 300).toArray⟩:=by
 have:=(nB S).1
 generalize S.extract 0 (min (S.size:Int) 300).toNat=X at this ⊢
 subst h
 rw [← this]
theorem ai.stored_row {w0 w:World} {ps:List aZ} {e:TypeId} {size g n cap:Nat} {xs:List Value} (h:ai w0 ps e size (.slice (some ⟨g,0,none⟩) n cap) n xs w) (j:Nat) (u:Value) :
  ai w0 ps e size (.slice (some ⟨g,0,none⟩) n cap) n (xs.set j u) (w.setCell ⟨g,j,none⟩ u) :=
 h.grown (h.own.stored j u).1 (h.own.stored j u).2 (.inr (.inl rfl))
theorem BH (t0:List NdA) (a:Option Addr) (c:Nat) (w:World) (h:ax w a 11 (t0.map bf)) (hnc:t0.length≤c) (hc:c≤maxLen) :
  Calls prog 8 #[.slice a t0.length c] w fun e w'=>∃ u,e=.returned u∧w'.ownsRow w.heap.size 27 11 u (few t0).length (ak (few t0))∧Below w.heap.size w w':=by
 have hc':c≤9223372036854775807:=hc
 clear hc
 obtain ⟨n,hn⟩:=ex ((t0.take 300).length)
 have hn1:n=min t0.length 300:=by rw [← hn,List.length_take]; omega
 have HF:=keep (show few t0=(t0.take 300).map i7 from rfl)
 rw [show (few t0).length=n by unfold few; rw [List.length_map,hn]]
 have HR:=keep (show ax w a 11 ((t0.take 300).map bf) from by
  intro hne
  obtain ⟨b,o,e1,e2,e3⟩:=h (by intro e; rw [List.map_eq_nil_iff.1 e] at hne; exact hne rfl)
  refine ⟨b,o,e1,e2,fun i r hi=>e3 i r ?_⟩
  rw [List.map_take,List.getElem?_take] at hi
  split at hi
  ·exact hi
  cases hi)
 generalize few t0=f0 at HF ⊢
 clear h
 generalize t0.take 300=t at hn HF HR
 obtain ⟨n0,hn0⟩:=ex (t0.length)
 rw [hn0] at hn1 hnc ⊢
 clear hn0
 have hmin:min n0 300=n:=by omega
 have HN:=keep hn
 have hn300:n≤300:=by omega
 have hle:min (n0:Int) 300≤c:=by omega
 have h0le:0≤min (n0:Int) 300:=by omega
 go_enter func8,ntmps8
 go_wp2_with fail
 rw [show (min (n0:Int) 300).toNat=n by omega]
 rw [← HN.out]
 refine (sZ t a c _ HR.out (by rw [HN.out]; omega)).mono ?_
 rintro e w1 ⟨u,rfl,hown,hb⟩
 rw [HN.out] at hown
 have HO:=Lib.hid (ai.of_new (Ok.start w) hb hown)
 clear hown hb HR hn hle h0le hmin hn1 hnc hc'
 by_cases hz:n=0
 ·subst hz
  have ht:t=[]:=List.length_eq_zero_iff.1 HN.out
  have hu:∃ ad cp,u=.slice ad 0 cp:=by
   rcases HO.out.own.2 with ⟨rfl,-⟩ | ⟨g,cap,cur,rfl,-⟩
   ·exact ⟨_,_,rfl⟩
   exact ⟨_,_,rfl⟩
  obtain ⟨ad,cp,rfl⟩:=hu
  have HFF:=keep (show ak f0=ak t by rw [HF.out,ht]; rfl)
  clear ht HF HN
  go_wp2_with fail
  go_loopw [4] (fun i wr=>i=.int .i64 0∧Hid (ai w [] 27 11 (.slice ad 0 cp) 0 (ak t) wr)) (fun i _=>0 - (intOf i).toNat)
  case atStart=>exact ⟨rfl,HO⟩
  case round =>
   obtain ⟨rfl,HO2⟩:=hrel
   go_wp2_with fail
   go_ret
   exact ⟨_,rfl,by rw [HFF.out]; exact HO2.out.own,HO2.out.ok.bel⟩
 obtain ⟨g,cap,rfl,-,-⟩:=HO.out.own.form (by omega)
 have hcap:=Lib.hid (show n≤cap by
  rcases HO.out.own.2 with ⟨h',-⟩ | ⟨g',cap',cur,h',-,-,h6,-⟩
  ·cases h'
  injection h' with h1 h2 h3; omega)
 go_wp2_with fail
 go_loopw [4] (fun i wr=>∃ k:Nat,k≤n∧i=.int .i64 (k:Int)∧Hid (ai w [] 27 11 (.slice (some ⟨g,0,none⟩) n cap) n (ak ((t.take k).map i7++t.drop k)) wr)) (fun i _=>n - (intOf i).toNat)
 case atStart=>exact ⟨0,Nat.zero_le _,rfl,by simpa using HO⟩
 case round =>
  clear HO
  obtain ⟨k,hk,rfl,HO⟩:=hrel
  obtain ⟨wp,rfl⟩:∃ wp:World,wp=wr:=⟨_,rfl⟩
  by_cases hlt:(k:Int)<n
  ·have hil:k<t.length:=by rw [HN.out]; omega
   obtain ⟨S,hS⟩:∃ S:ByteArray,S=⟨(t[k]).vt.toArray⟩:=⟨_,rfl⟩
   have HSD:=keep (show S.data.toList=(t[k]).vt by rw [hS])
   have HCX:=keep (rK S _ HSD.out)
   have hx2:=(nB S).2
   have HST:=keep (show (ak ((t.take k).map i7++t.drop k)).set (k * 11+3) (.string (S.extract 0 (min (S.size:Int) 300).toNat))=ak ((t.take (k+1)).map i7++t.drop (k+1)) by
    rw [HCX.out,yL _ k _ _ (uA t k hil),← uB t k hil]
    rfl)
   have HC3:=keep (show (ak ((t.take k).map i7++t.drop k))[k * 11+3]?=some (.string S) by
    rw [hS]
    exact nJ bf 11 (fun _=>rfl) _ k _ (uA t k hil) 3 _ rfl)
   generalize ak ((t.take k).map i7++t.drop k)=xs at HO HST HC3
   clear HCX HSD hS hil
   have hn9:k<n:=by omega
   have h31:k≤300:=by omega
   have HOX:=Lib.hid HO.out.drew
   clear hlt HO
   go_upto_region 5 with fail
   refine wp_region_any (by kernel_rfl) ?_
   change wpAny _ _ _ _ _ _ _ wp.drew
   generalize wp.drew=W1 at HOX ⊢
   have HO:=HOX
   clear HOX
   have c3:=HO.out.own.cells (g:=g) rfl _ _ HC3.out
   have f3:=HO.out.own.frozenAt (k * 11+3)
   rw [show (⟨g,0,none⟩:Addr).add (k * 11+3)=⟨g,k * 11+1+2,none⟩ by unfold Addr.add; simp] at c3
   rw [show k * 11+3=k * 11+1+2 from rfl] at f3
   have hcp:=hcap.out
   refine wtn (i:=0) (v:=?a1) rfl ?b1 ?c1
   case b1=>(intro w; go_simp; (try rw [if_neg (by omega)]); (try rw [if_pos (by omega)]); (try with_reducible rfl))
   try simp only [Act.put,wp1,wp2,wp3,wp4,wp6]
   refine wtn (i:=1) (v:=?a3) rfl ?b3 ?c3
   case b3=>(intro w; go_simp; (try rw [if_neg (by omega)]); (try rw [if_pos (by omega)]); (try with_reducible rfl))
   try simp only [Act.put,wp1,wp2,wp3,wp4,wp5,wp6]
   refine wtn (i:=2) (v:=?a5) rfl ?b5 ?c5
   case b5=>(intro w; go_simp; (try rw [if_neg (by omega)]); (try rw [if_pos (by omega)]); (try with_reducible rfl))
   try simp only [Act.put,wp1,wp2,wp3,wp4,wp5,wp6]
   refine wtn (i:=3) (v:=?a7) rfl ?b7 ?c7
   case b7=>(intro w; go_simp; (try rw [if_neg (by omega)]); (try rw [if_pos (by omega)]); (try with_reducible rfl))
   try simp only [Act.put,wp1,wp2,wp3,wp4,wp5,wp6]
   refine wtn (i:=4) (v:=?a9) rfl ?b9 ?c9
   case b9=>(intro w; go_simp; (try rw [if_neg (by omega)]); (try rw [if_pos (by omega)]); (try with_reducible rfl))
   try simp only [Act.put,wp1,wp2,wp3,wp4,wp5,wp6]
   refine wtn (i:=5) (v:=?a11) rfl ?b11 ?c11
   case b11=>(intro w; go_simp; (try rw [if_neg (by omega)]); (try rw [if_pos (by omega)]); (try with_reducible rfl))
   try simp only [Act.put,wp1,wp2,wp3,wp4,wp5,wp6]
   refine wtn (i:=6) (v:=?a13) rfl ?b13 ?c13
   case b13=>(intro w; go_simp; (try rw [if_neg (by omega)]); (try rw [if_pos (by omega)]); (try with_reducible rfl))
   try simp only [Act.put,wp1,wp2,wp3,wp4,wp5,wp6]
   refine wtn (i:=8) (v:=?a15) rfl ?b15 ?c15
   case b15=>(intro w; go_simp; (try rw [if_neg (by omega)]); (try rw [if_pos (by omega)]); (try with_reducible rfl))
   try simp only [Act.put,wp1,wp2,wp3,wp4,wp5,wp6]
   refine wtn (i:=9) (v:=?a17) rfl ?b17 ?c17
   case b17=>(intro w; go_simp; (try rw [if_neg (by omega)]); (try rw [if_pos (by omega)]); (try with_reducible rfl))
   try simp only [Act.put,wp1,wp2,wp3,wp4,wp5,wp6]
   refine wtn (i:=10) (v:=?a19) rfl ?b19 ?c19
   case b19=>(intro w; go_simp; (try rw [if_neg (by omega)]); (try rw [if_pos (by omega)]); (try with_reducible rfl))
   try simp only [Act.put,wp1,wp2,wp3,wp4,wp5,wp6]
   refine wtn (i:=11) (v:=?a21) rfl ?b21 ?c21
   case b21=>(intro w; go_simp; (try rw [if_neg (by omega)]); (try rw [if_pos (by omega)]); (try with_reducible rfl))
   try simp only [Act.put,wp1,wp2,wp3,wp4,wp5,wp6]
   refine wtn (i:=12) (v:=?a23) rfl ?b23 ?c23
   case b23=>(intro w; go_simp; (try rw [if_neg (by omega)]); (try rw [if_pos (by omega)]); (try with_reducible rfl))
   try simp only [Act.put,wp1,wp2,wp3,wp4,wp5,wp6]
   refine wpAny_ready (rs:=[7,13]) (by kernel_rfl) (by simp) ?_
   refine (AllReady.cons rfl (fun K hK => ?_) (AllReady.cons rfl (fun K hK => ?_) AllReady.nil))
   ·go_simp
    refine hK _ _ ?_
    clear hK K
    refine wm ?_
    refine wan 13 fun K hK => ?_
    ·go_simp
     refine hK _ _ ?_
     clear hK K
     refine wm ?_
     refine wtn (i:=14) (v:=?a27) rfl ?b27 ?c27
     case b27=>(intro w; go_simp; (try rw [if_neg (by omega)]); (try rw [if_pos (by omega)]); (try with_reducible rfl))
     try simp only [Act.put,wp1,wp2,wp3,wp4,wp5,wp6]
     refine wtn (i:=15) (v:=?a29) rfl ?b29 ?c29
     case b29=>(intro w; go_simp; (try rw [if_neg (by omega)]); (try rw [if_pos (by omega)]); (try with_reducible rfl))
     try simp only [Act.put,wp1,wp2,wp3,wp4,wp5,wp6]
     refine wtn (i:=16) (v:=?a31) rfl ?b31 ?c31
     case b31=>(intro w; go_simp; (try rw [if_neg (by omega)]); (try rw [if_pos (by omega)]); (try with_reducible rfl))
     try simp only [Act.put,wp1,wp2,wp3,wp4,wp5,wp6]
     refine wtn (i:=17) (v:=?a33) rfl ?b33 ?c33
     case b33=>(intro w; go_simp; (try rw [if_neg (by omega)]); (try rw [if_pos (by omega)]); (try with_reducible rfl))
     try simp only [Act.put,wp1,wp2,wp3,wp4,wp5,wp6]
     refine wtn (i:=18) (v:=?a35) rfl ?b35 ?c35
     case b35=>(intro w; go_simp; (try rw [if_neg (by omega)]); (try rw [if_pos (by omega)]); (try with_reducible rfl))
     try simp only [Act.put,wp1,wp2,wp3,wp4,wp5,wp6]
     refine wtn (i:=19) (v:=?a37) rfl ?b37 ?c37
     case b37=>(intro w; go_simp; (try rw [if_neg (by omega)]); (try rw [if_pos (by omega)]); (try with_reducible rfl))
     try simp only [Act.put,wp1,wp2,wp3,wp4,wp5,wp6]
     refine wan 20 fun K hK => ?_
     ·go_simp
      have HS:=Lib.hid (HO.out.stored_row (k * 11+3) (.string (S.extract 0 (min (S.size:Int) 300).toNat)))
      refine hK _ _ ?_
      clear hK K
      refine wm ?_
      refine wpAny_done (by kernel_rfl) ?_ _
      go_wp2_with fail
      go_roundw
      case rel=>exact ⟨k+1,by omega,by go_num,Lib.hid (by rw [← HST.out]; exact HS.out)⟩
      case measure=>simp [intOf]; omega
   go_simp
   refine hK _ _ ?_
   clear hK K
   refine wm ?_
   refine wtn (i:=14) (v:=?a41) rfl ?b41 ?c41
   case b41=>(intro w; go_simp; (try rw [if_neg (by omega)]); (try rw [if_pos (by omega)]); (try with_reducible rfl))
   try simp only [Act.put,wp1,wp2,wp3,wp4,wp5,wp6]
   refine wtn (i:=15) (v:=?a43) rfl ?b43 ?c43
   case b43=>(intro w; go_simp; (try rw [if_neg (by omega)]); (try rw [if_pos (by omega)]); (try with_reducible rfl))
   try simp only [Act.put,wp1,wp2,wp3,wp4,wp5,wp6]
   refine wan 7 fun K hK => ?_
   ·go_simp
    refine hK _ _ ?_
    clear hK K
    refine wm ?_
    refine wtn (i:=16) (v:=?a46) rfl ?b46 ?c46
    case b46=>(intro w; go_simp; (try rw [if_neg (by omega)]); (try rw [if_pos (by omega)]); (try with_reducible rfl))
    try simp only [Act.put,wp1,wp2,wp3,wp4,wp5,wp6]
    refine wtn (i:=17) (v:=?a48) rfl ?b48 ?c48
    case b48=>(intro w; go_simp; (try rw [if_neg (by omega)]); (try rw [if_pos (by omega)]); (try with_reducible rfl))
    try simp only [Act.put,wp1,wp2,wp3,wp4,wp5,wp6]
    refine wtn (i:=18) (v:=?a50) rfl ?b50 ?c50
    case b50=>(intro w; go_simp; (try rw [if_neg (by omega)]); (try rw [if_pos (by omega)]); (try with_reducible rfl))
    try simp only [Act.put,wp1,wp2,wp3,wp4,wp5,wp6]
    refine wtn (i:=19) (v:=?a52) rfl ?b52 ?c52
    case b52=>(intro w; go_simp; (try rw [if_neg (by omega)]); (try rw [if_pos (by omega)]); (try with_reducible rfl))
    try simp only [Act.put,wp1,wp2,wp3,wp4,wp5,wp6]
    refine wan 20 fun K hK => ?_
    ·go_simp
     have HS:=Lib.hid (HO.out.stored_row (k * 11+3) (.string (S.extract 0 (min (S.size:Int) 300).toNat)))
     refine hK _ _ ?_
     clear hK K
     refine wm ?_
     refine wpAny_done (by kernel_rfl) ?_ _
     go_wp2_with fail
     go_roundw
     case rel=>exact ⟨k+1,by omega,by go_num,Lib.hid (by rw [← HST.out]; exact HS.out)⟩
     case measure=>simp [intOf]; omega
  obtain rfl:n=k:=by omega
  have HFF:=keep (show ak f0=ak ((t.take n).map i7++t.drop n) by
   rw [HF.out,List.take_of_length_le (by rw [HN.out]; exact Nat.le_refl _),List.drop_eq_nil_of_le (by rw [HN.out]; exact Nat.le_refl _),List.append_nil])
  go_wp2_with fail
  go_ret
  exact ⟨_,rfl,by rw [HFF.out]; exact HO.out.own,HO.out.ok.bel⟩
theorem AG {t:List NdA} (h:∀ n∈t,iU n):ASz (few t) :=
 ⟨by have:=qn t; omega,fun a ha=>by have:=(lP h a ha).2; omega,fun a ha=>(lP h a ha).1.num.2⟩
theorem s7 (l:List UInt8):(⟨l.toArray⟩:ByteArray).data.toList=l:=by simp
