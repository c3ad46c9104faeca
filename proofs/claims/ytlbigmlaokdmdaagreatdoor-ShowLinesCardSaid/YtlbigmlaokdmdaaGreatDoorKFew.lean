/- The kit's CopyTree; the statements' Few. The statements' Few. -/
import Derived.Test.YtlbigmlaokdmdaaGreatDoorKEqT
import Derived.Test.YtlbigmlaokdmdaaGreatDoorKAddrP
namespace Go.Proofs.YtlbigmlaokdmdaaGreatDoor
open Go.RowKit
def ndaCells (t : List NdA) : List Value:=t.flatMap aRow
theorem ndaCells_len (t : List NdA) : (ndaCells t).length = t.length * 11:=by
 unfold ndaCells
 induction t with
 | nil => rfl
 | cons t l ih => rw [List.flatMap_cons,List.length_append,ih,List.length_cons]; show 11 + _ = _; omega
theorem ndaCells_one (t : List NdA) : ∀ u ∈ ndaCells t,u.oneCell' = true:=by
 intro u hu
 unfold ndaCells at hu
 obtain ⟨t,-,ht⟩:=List.mem_flatMap.1 hu
 unfold aRow at ht
 simp at ht
 rcases ht with rfl | rfl | rfl | rfl | rfl | rfl | rfl | rfl | rfl | rfl | rfl <;> rfl
theorem nda_own {w : World} {base : Nat} {v : Value} {t : List NdA} (h : w.ownsRow base 41 11 v t.length (ndaCells t)) : ∃ a c,v = .slice a t.length c ∧ t.length ≤ c ∧ c ≤ maxLen ∧ RowsAt w a 11 (t.map aRow):=by
 obtain ⟨a,c,h1,h2,h3,h4⟩:=rows_own aRow (fun _ => rfl) h rfl
 exact ⟨a,c,h1,h2,h3,h4⟩
theorem flat_back {α : Type} (f : α → List Value) (s : Nat) (hf : ∀ x,(f x).length = s) : ∀ (l : List α) (j : Nat) (v : Value),(l.flatMap f)[j]? = some v → ∃ i x k,l[i]? = some x ∧ j = i * s + k ∧ (f x)[k]? = some v:=by
 intro l
 induction l with
 | nil => intro j v h; cases h
 | cons x l ih =>
  intro j v h
  rw [List.flatMap_cons] at h
  by_cases hj : j < (f x).length
  ·rw [List.getElem?_append_left hj] at h
   exact ⟨0,x,j,rfl,by omega,h⟩
  ·rw [List.getElem?_append_right (by omega)] at h
   obtain ⟨i,y,k,h1,h2,h3⟩:=ih _ _ h
   refine ⟨i + 1,y,k,h1,?_,h3⟩
   rw [hf] at h2 hj
   rw [Nat.succ_mul]
   omega
def cutN (n : NdA) : NdA:={ n with vt:=n.vt.take 300 }
def few (t : List NdA) : List NdA:=(t.take 300).map cutN
theorem few_le (t : List NdA) : (few t).length ≤ 300:=by
 unfold few
 rw [List.length_map,List.length_take]
 omega
theorem few_in {t : List NdA} (h : ∀ n ∈ t,NdIn n) : ∀ n ∈ few t,NdIn n ∧ n.vt.length ≤ 300:=by
 intro n hn
 obtain ⟨x,hx,rfl⟩:=List.mem_map.1 hn
 have h1:=h x (List.mem_of_mem_take hx)
 have h2 : (x.vt.take 300).length ≤ 300:=by rw [List.length_take]; omega
 exact ⟨⟨h1.num,Nat.le_trans h2 (by decide)⟩,h2⟩
theorem nda_set : ∀ (l : List NdA) (k : Nat) (x : NdA) (v : List UInt8),l[k]? = some x → (ndaCells l).set (k * 11 + 3) (.string ⟨v.toArray⟩) = ndaCells (l.set k { x with vt:=v }):=by
 intro l
 induction l with
 | nil => intro k x v h; cases h
 | cons y l ih =>
  intro k x v h
  unfold ndaCells
  cases k with
  | zero =>
   simp only [List.getElem?_cons_zero,Option.some.injEq] at h
   subst h
   rw [List.set_cons_zero,List.flatMap_cons,List.flatMap_cons]
   rfl
  | succ k =>
   rw [List.set_cons_succ,List.flatMap_cons,List.flatMap_cons,List.set_append_right _ _ (by show 11 ≤ _; omega)]
   congr 1
   have:=ih k x v h
   unfold ndaCells at this
   rw [← this]
   congr 1
   show (k + 1) * 11 + 3 - 11 = _
   omega
theorem cut_step (t : List NdA) (k : Nat) (h : k < t.length) : ((t.take k).map cutN ++ t.drop k).set k (cutN t[k]) = (t.take (k + 1)).map cutN ++ t.drop (k + 1):=by
 have h1 : ((t.take k).map cutN).length = k:=by rw [List.length_map,List.length_take]; omega
 rw [List.set_append_right _ _ (by omega),h1,Nat.sub_self,List.drop_eq_getElem_cons h,List.set_cons_zero,List.take_succ_eq_append_getElem h,List.map_append,List.append_assoc]
 rfl
theorem cut_at (t : List NdA) (k : Nat) (h : k < t.length) : ((t.take k).map cutN ++ t.drop k)[k]? = some t[k]:=by
 have h1 : ((t.take k).map cutN).length = k:=by rw [List.length_map,List.length_take]; omega
 rw [List.getElem?_append_right (by omega),h1,Nat.sub_self,List.getElem?_drop]
 simp [h]
theorem wpList_runF {P : Program} {w w' : World} {ops : Array Oper} {rest : List Oper} {o : Oper} {a : Act} {Q : Exit → Act → World → Prop} {v : Value} (hgd : o.guard = none) (s x : Operand) (t : TypeId)
  (ho : o.op = .call { callee:=.builtin .append,args:=#[s,x],argTypes:=#[t,t] }) (V X : Value) (hs : a.eval s = V) (hx : a.eval x = X) (hr : (Builtin.append_ #[t,t] o.type #[V,X]).run P w = .ok v w')
  (h : wpList P ops Q rest (a.put o.dst v) w') : wpList P ops Q (o :: rest) a w:=by
 refine wpList_plain hgd fun K hK => ?_
 unfold Oper.wp execOp
 simp only [ho,resolve,invoke,builtin,Sem.run_bind,Sem.run_pure,Result.andThen_ok,List.map_toArray,List.map_cons,List.map_nil,hs,hx,hr]
 exact hK _ _ h
set_option maxRecDepth 100000 in
set_option maxHeartbeats 8000000 in
theorem copy_tree (t : List NdA) (a : Option Addr) (c : Nat) (w : World) (h : RowsAt w a 11 (t.map aRow)) (hn : t.length ≤ 100000) :
  Calls Tryz.prog 25 #[.slice a t.length c] w fun e w' => ∃ u,e = .returned u ∧ w'.ownsRow w.heap.size 41 11 u t.length (ndaCells t) ∧ Below w.heap.size w w':=by
 obtain ⟨i0,hi,hz0,hz1,hz2⟩:=info_parts info_node
 obtain ⟨n,hnn⟩ : ∃ n,t.length = n:=⟨_,rfl⟩
 have HN:=keep hnn
 rw [hnn] at hn ⊢
 have HCL:=keep (ndaCells_len t)
 have HONE:=keep (ndaCells_one t)
 have H0:=Lib.hid (OkRow.start (Ok.start w) 41 11)
 by_cases h0 : n = 0
 ·subst h0
  have hxs : ndaCells t = []:=by rw [List.length_eq_zero_iff.1 HN.out]; rfl
  rw [hxs]
  clear HCL HONE hxs h hnn HN
  have hap : (Builtin.append_ #[22,22] 22 #[.slice none 0 0,.slice a 0 c]).run Tryz.prog w = .ok (.slice none 0 0) w:=by
   cases a <;> simp [Builtin.append_,run_underlying Tryz.underlying22,sizeOf,typeInfo,hi,Builtin.lenOf,Builtin.firstCells,loadCells,loadCellsFrom]
  go_enter Tryz.func25,Tryz.ntmps25
  go_wp2_with (at_builtin; refine wpList_runF rfl _ _ _ rfl _ _ rfl rfl hap ?_)
  go_ret
  exact ⟨_,rfl,World.ownsRow_nil _ _ _ _,Below.refl _ _⟩
 ·obtain ⟨b,o,rfl,hB,hc⟩:=h (by intro e; rw [List.map_eq_nil_iff.1 e] at hnn; exact h0 (by rw [← hnn]; rfl))
  have HNW:=keep (show ∀ j u,(ndaCells t)[j]? = some u → w.cell? ((⟨b,o,none⟩ : Addr).add j) = some u from fun j u hu => by
   obtain ⟨i,x,k,e1,rfl,e3⟩:=flat_back aRow 11 (fun _ => rfl) t j u hu
   have h9:=hc i (aRow x) (by rw [List.getElem?_map,e1]; rfl) k u e3
   rw [← h9]
   congr 1
   unfold Addr.add; split <;> simp_all)
  clear h hc hnn
  rw [HN.out] at HCL
  generalize ndaCells t = xs at HCL HONE HNW ⊢
  clear HN
  go_enter Tryz.func25,Tryz.ntmps25
  go_wp2_with (at_builtin; refine wpList_append_lies _ rfl _ _ _ rfl w.heap.size 41 i0 _ 11 96 Tryz.underlying22 hi hz0 hz1 hz2 rfl (by omega) _ _ _ rfl H0.out.own ⟨b,o,none⟩ n c xs rfl HCL.out HNW.out HONE.out (by omega) (by unfold maxLen; omega) (by omega) (Nat.le_refl _) _ rfl ?_; intro g3 cap3 w3 hown3 hgrow3 hat3 hlt3)
  go_ret
  have h9:=H0.out.appended hown3 hgrow3 hat3
  exact ⟨.slice (some ⟨g3,0,none⟩) n cap3,rfl,by have h8:=h9.own; rwa [Nat.zero_add,List.nil_append] at h8,h9.ok.bel⟩
end Go.Proofs.YtlbigmlaokdmdaaGreatDoor
namespace Go.Proofs.YtlbigmlaokdmdaaGreatDoor
open Go.RowKit
theorem cut300 (S : ByteArray) : (S.extract 0 (min (S.size : Int) 300).toNat).data.toList = S.data.toList.take 300 ∧ (S.extract 0 (min (S.size : Int) 300).toNat).size ≤ 300:=by
 have h9 : S.data.toList.length = S.size:=by rw [Array.length_toList]; rfl
 have h8 : (S.extract 0 (min (S.size : Int) 300).toNat).data.toList = S.data.toList.take 300:=by
  rw [Lib.extract_data,List.drop_zero,Nat.sub_zero]
  by_cases h8 : S.size ≤ 300
  ·rw [List.take_of_length_le (by omega),List.take_of_length_le (by omega)]
  ·congr 1; omega
 refine ⟨h8,?_⟩
 have h7 : (S.extract 0 (min (S.size : Int) 300).toNat).data.toList.length = (S.extract 0 (min (S.size : Int) 300).toNat).size:=by rw [Array.length_toList]; rfl
 rw [← h7,h8,List.length_take]
 omega
theorem cut300a (S : ByteArray) (v : List UInt8) (h : S.data.toList = v) : S.extract 0 (min (S.size : Int) 300).toNat = ⟨(v.take 300).toArray⟩:=by
 have:=(cut300 S).1
 generalize S.extract 0 (min (S.size : Int) 300).toNat = X at this ⊢
 subst h
 rw [← this]
theorem OkRow.stored_row {w0 w : World} {ps : List Pers} {e : TypeId} {size g n cap : Nat} {xs : List Value} (h : OkRow w0 ps e size (.slice (some ⟨g,0,none⟩) n cap) n xs w) (j : Nat) (u : Value) :
  OkRow w0 ps e size (.slice (some ⟨g,0,none⟩) n cap) n (xs.set j u) (w.setCell ⟨g,j,none⟩ u) :=
 h.grown (h.own.stored j u).1 (h.own.stored j u).2 (.inr (.inl rfl))
set_option maxRecDepth 100000 in
set_option maxHeartbeats 8000000 in
theorem few_ (t0 : List NdA) (a : Option Addr) (c : Nat) (w : World) (h : RowsAt w a 11 (t0.map aRow)) (hnc : t0.length ≤ c) (hc : c ≤ maxLen) :
  Calls Tryz.prog 10 #[.slice a t0.length c] w fun e w' => ∃ u,e = .returned u ∧ w'.ownsRow w.heap.size 41 11 u (few t0).length (ndaCells (few t0)) ∧ Below w.heap.size w w':=by
 have hc' : c ≤ 9223372036854775807:=hc
 clear hc
 obtain ⟨n,hn⟩ : ∃ n,(t0.take 300).length = n:=⟨_,rfl⟩
 have hn1 : n = min t0.length 300:=by rw [← hn,List.length_take]; omega
 have HF:=keep (show few t0 = (t0.take 300).map cutN from rfl)
 rw [show (few t0).length = n by unfold few; rw [List.length_map,hn]]
 have HR:=keep (show RowsAt w a 11 ((t0.take 300).map aRow) from by
  intro hne
  obtain ⟨b,o,e1,e2,e3⟩:=h (by intro e; rw [List.map_eq_nil_iff.1 e] at hne; exact hne rfl)
  refine ⟨b,o,e1,e2,fun i r hi => e3 i r ?_⟩
  rw [List.map_take,List.getElem?_take] at hi
  split at hi
  ·exact hi
  ·cases hi)
 generalize few t0 = f0 at HF ⊢
 clear h
 generalize t0.take 300 = t at hn HF HR
 obtain ⟨n0,hn0⟩ : ∃ n0,t0.length = n0:=⟨_,rfl⟩
 rw [hn0] at hn1 hnc ⊢
 clear hn0
 have hmin : min n0 300 = n:=by omega
 have HN:=keep hn
 have hn300 : n ≤ 300:=by omega
 have hle : min (n0 : Int) 300 ≤ c:=by omega
 have h0le : 0 ≤ min (n0 : Int) 300:=by omega
 go_enter Tryz.func10,Tryz.ntmps10
 go_wp2_with fail
 rw [show (min (n0 : Int) 300).toNat = n by omega]
 rw [← HN.out]
 refine (copy_tree t a c _ HR.out (by rw [HN.out]; omega)).mono ?_
 rintro e w1 ⟨u,rfl,hown,hb⟩
 rw [HN.out] at hown
 have HO:=Lib.hid (OkRow.of_new (Ok.start w) hb hown)
 clear hown hb HR hn hle h0le hmin hn1 hnc hc'
 by_cases hz : n = 0
 ·subst hz
  have ht : t = []:=List.length_eq_zero_iff.1 HN.out
  have hu : ∃ ad cp,u = .slice ad 0 cp:=by
   rcases HO.out.own.2 with ⟨rfl,-⟩ | ⟨g,cap,cur,rfl,-⟩
   ·exact ⟨_,_,rfl⟩
   ·exact ⟨_,_,rfl⟩
  obtain ⟨ad,cp,rfl⟩:=hu
  have HFF:=keep (show ndaCells f0 = ndaCells t by rw [HF.out,ht]; rfl)
  clear ht HF HN
  go_wp2_with fail
  go_loopw [4] (fun i wr => i = .int .i64 0 ∧ Hid (OkRow w [] 41 11 (.slice ad 0 cp) 0 (ndaCells t) wr)) (fun i _ => 0 - (intOf i).toNat)
  case atStart => exact ⟨rfl,HO⟩
  case round =>
   obtain ⟨rfl,HO2⟩:=hrel
   go_wp2_with fail
   go_ret
   exact ⟨_,rfl,by rw [HFF.out]; exact HO2.out.own,HO2.out.ok.bel⟩
 obtain ⟨g,cap,rfl,-,-⟩:=HO.out.own.form (by omega)
 have hcap:=Lib.hid (show n ≤ cap by
  rcases HO.out.own.2 with ⟨h',-⟩ | ⟨g',cap',cur,h',-,-,h6,-⟩
  ·cases h'
  ·injection h' with h1 h2 h3; omega)
 go_wp2_with fail
 go_loopw [4] (fun i wr => ∃ k : Nat,k ≤ n ∧ i = .int .i64 (k : Int) ∧ Hid (OkRow w [] 41 11 (.slice (some ⟨g,0,none⟩) n cap) n (ndaCells ((t.take k).map cutN ++ t.drop k)) wr)) (fun i _ => n - (intOf i).toNat)
 case atStart => exact ⟨0,Nat.zero_le _,rfl,by simpa using HO⟩
 case round =>
  clear HO
  obtain ⟨k,hk,rfl,HO⟩:=hrel
  obtain ⟨wp,rfl⟩ : ∃ wp : World,wp = wr:=⟨_,rfl⟩
  by_cases hlt : (k : Int) < n
  ·have hil : k < t.length:=by rw [HN.out]; omega
   obtain ⟨S,hS⟩ : ∃ S : ByteArray,S = ⟨(t[k]).vt.toArray⟩:=⟨_,rfl⟩
   have HSD:=keep (show S.data.toList = (t[k]).vt by rw [hS])
   have HCX:=keep (cut300a S _ HSD.out)
   have hx2:=(cut300 S).2
   have HST:=keep (show (ndaCells ((t.take k).map cutN ++ t.drop k)).set (k * 11 + 3) (.string (S.extract 0 (min (S.size : Int) 300).toNat)) = ndaCells ((t.take (k + 1)).map cutN ++ t.drop (k + 1)) by
    rw [HCX.out,nda_set _ k _ _ (cut_at t k hil),← cut_step t k hil]
    rfl)
   have HC3:=keep (show (ndaCells ((t.take k).map cutN ++ t.drop k))[k * 11 + 3]? = some (.string S) by
    rw [hS]
    exact flat_at aRow 11 (fun _ => rfl) _ k _ (cut_at t k hil) 3 _ rfl)
   generalize ndaCells ((t.take k).map cutN ++ t.drop k) = xs at HO HST HC3
   clear HCX HSD hS hil
   have hn9 : k < n:=by omega
   have h31 : k ≤ 300:=by omega
   have HOX:=Lib.hid HO.out.drew
   clear hlt HO
   go_upto_region 5 with fail
   refine wp_region_any (by kernel_rfl) ?_
   change wpAny _ _ _ _ _ _ _ wp.drew
   generalize wp.drew = W1 at HOX ⊢
   have HO:=HOX
   clear HOX
   have c3:=HO.out.own.cells (g:=g) rfl _ _ HC3.out
   have f3:=HO.out.own.frozenAt (k * 11 + 3)
   rw [show (⟨g,0,none⟩ : Addr).add (k * 11 + 3) = ⟨g,k * 11 + 1 + 2,none⟩ by unfold Addr.add; simp] at c3
   rw [show k * 11 + 3 = k * 11 + 1 + 2 from rfl] at f3
   have hcp:=hcap.out
   refine wtn (i:=0) (v:=?a1) rfl ?b1 ?c1
   case b1 => (intro w; go_simp; (try rw [if_neg (by omega)]); (try rw [if_pos (by omega)]); (try with_reducible rfl))
   try simp only [Act.put,wp1,wp2,wp3,wp4,wp6]
   refine wtn (i:=1) (v:=?a3) rfl ?b3 ?c3
   case b3 => (intro w; go_simp; (try rw [if_neg (by omega)]); (try rw [if_pos (by omega)]); (try with_reducible rfl))
   try simp only [Act.put,wp1,wp2,wp3,wp4,wp5,wp6]
   refine wtn (i:=2) (v:=?a5) rfl ?b5 ?c5
   case b5 => (intro w; go_simp; (try rw [if_neg (by omega)]); (try rw [if_pos (by omega)]); (try with_reducible rfl))
   try simp only [Act.put,wp1,wp2,wp3,wp4,wp5,wp6]
   refine wtn (i:=3) (v:=?a7) rfl ?b7 ?c7
   case b7 => (intro w; go_simp; (try rw [if_neg (by omega)]); (try rw [if_pos (by omega)]); (try with_reducible rfl))
   try simp only [Act.put,wp1,wp2,wp3,wp4,wp5,wp6]
   refine wtn (i:=4) (v:=?a9) rfl ?b9 ?c9
   case b9 => (intro w; go_simp; (try rw [if_neg (by omega)]); (try rw [if_pos (by omega)]); (try with_reducible rfl))
   try simp only [Act.put,wp1,wp2,wp3,wp4,wp5,wp6]
   refine wtn (i:=5) (v:=?a11) rfl ?b11 ?c11
   case b11 => (intro w; go_simp; (try rw [if_neg (by omega)]); (try rw [if_pos (by omega)]); (try with_reducible rfl))
   try simp only [Act.put,wp1,wp2,wp3,wp4,wp5,wp6]
   refine wtn (i:=6) (v:=?a13) rfl ?b13 ?c13
   case b13 => (intro w; go_simp; (try rw [if_neg (by omega)]); (try rw [if_pos (by omega)]); (try with_reducible rfl))
   try simp only [Act.put,wp1,wp2,wp3,wp4,wp5,wp6]
   refine wtn (i:=8) (v:=?a15) rfl ?b15 ?c15
   case b15 => (intro w; go_simp; (try rw [if_neg (by omega)]); (try rw [if_pos (by omega)]); (try with_reducible rfl))
   try simp only [Act.put,wp1,wp2,wp3,wp4,wp5,wp6]
   refine wtn (i:=9) (v:=?a17) rfl ?b17 ?c17
   case b17 => (intro w; go_simp; (try rw [if_neg (by omega)]); (try rw [if_pos (by omega)]); (try with_reducible rfl))
   try simp only [Act.put,wp1,wp2,wp3,wp4,wp5,wp6]
   refine wtn (i:=10) (v:=?a19) rfl ?b19 ?c19
   case b19 => (intro w; go_simp; (try rw [if_neg (by omega)]); (try rw [if_pos (by omega)]); (try with_reducible rfl))
   try simp only [Act.put,wp1,wp2,wp3,wp4,wp5,wp6]
   refine wtn (i:=11) (v:=?a21) rfl ?b21 ?c21
   case b21 => (intro w; go_simp; (try rw [if_neg (by omega)]); (try rw [if_pos (by omega)]); (try with_reducible rfl))
   try simp only [Act.put,wp1,wp2,wp3,wp4,wp5,wp6]
   refine wtn (i:=12) (v:=?a23) rfl ?b23 ?c23
   case b23 => (intro w; go_simp; (try rw [if_neg (by omega)]); (try rw [if_pos (by omega)]); (try with_reducible rfl))
   try simp only [Act.put,wp1,wp2,wp3,wp4,wp5,wp6]
   refine wpAny_ready (rs:=[7,13]) (by kernel_rfl) (by simp) ?_
   refine (AllReady.cons rfl (fun K hK => ?_) (AllReady.cons rfl (fun K hK => ?_) AllReady.nil))
   ·go_simp
    refine hK _ _ ?_
    clear hK K
    try simp only [Act.put,wp1,wp2,wp3,wp4,wp5,wp6]
    refine wpAny_ready (rs:=[13]) (by kernel_rfl) (by simp) ?_
    refine (AllReady.cons rfl (fun K hK => ?_) AllReady.nil)
    ·go_simp
     refine hK _ _ ?_
     clear hK K
     try simp only [Act.put,wp1,wp2,wp3,wp4,wp5,wp6]
     refine wtn (i:=14) (v:=?a27) rfl ?b27 ?c27
     case b27 => (intro w; go_simp; (try rw [if_neg (by omega)]); (try rw [if_pos (by omega)]); (try with_reducible rfl))
     try simp only [Act.put,wp1,wp2,wp3,wp4,wp5,wp6]
     refine wtn (i:=15) (v:=?a29) rfl ?b29 ?c29
     case b29 => (intro w; go_simp; (try rw [if_neg (by omega)]); (try rw [if_pos (by omega)]); (try with_reducible rfl))
     try simp only [Act.put,wp1,wp2,wp3,wp4,wp5,wp6]
     refine wtn (i:=16) (v:=?a31) rfl ?b31 ?c31
     case b31 => (intro w; go_simp; (try rw [if_neg (by omega)]); (try rw [if_pos (by omega)]); (try with_reducible rfl))
     try simp only [Act.put,wp1,wp2,wp3,wp4,wp5,wp6]
     refine wtn (i:=17) (v:=?a33) rfl ?b33 ?c33
     case b33 => (intro w; go_simp; (try rw [if_neg (by omega)]); (try rw [if_pos (by omega)]); (try with_reducible rfl))
     try simp only [Act.put,wp1,wp2,wp3,wp4,wp5,wp6]
     refine wtn (i:=18) (v:=?a35) rfl ?b35 ?c35
     case b35 => (intro w; go_simp; (try rw [if_neg (by omega)]); (try rw [if_pos (by omega)]); (try with_reducible rfl))
     try simp only [Act.put,wp1,wp2,wp3,wp4,wp5,wp6]
     refine wtn (i:=19) (v:=?a37) rfl ?b37 ?c37
     case b37 => (intro w; go_simp; (try rw [if_neg (by omega)]); (try rw [if_pos (by omega)]); (try with_reducible rfl))
     try simp only [Act.put,wp1,wp2,wp3,wp4,wp5,wp6]
     refine wpAny_ready (rs:=[20]) (by kernel_rfl) (by simp) ?_
     refine (AllReady.cons rfl (fun K hK => ?_) AllReady.nil)
     ·go_simp
      have HS:=Lib.hid (HO.out.stored_row (k * 11 + 3) (.string (S.extract 0 (min (S.size : Int) 300).toNat)))
      refine hK _ _ ?_
      clear hK K
      try simp only [Act.put,wp1,wp2,wp3,wp4,wp5,wp6]
      refine wpAny_done (by kernel_rfl) ?_ _
      go_wp2_with fail
      go_roundw
      case rel => exact ⟨k + 1,by omega,by go_num,Lib.hid (by rw [← HST.out]; exact HS.out)⟩
      case measure => simp [intOf]; omega
   ·go_simp
    refine hK _ _ ?_
    clear hK K
    try simp only [Act.put,wp1,wp2,wp3,wp4,wp5,wp6]
    refine wtn (i:=14) (v:=?a41) rfl ?b41 ?c41
    case b41 => (intro w; go_simp; (try rw [if_neg (by omega)]); (try rw [if_pos (by omega)]); (try with_reducible rfl))
    try simp only [Act.put,wp1,wp2,wp3,wp4,wp5,wp6]
    refine wtn (i:=15) (v:=?a43) rfl ?b43 ?c43
    case b43 => (intro w; go_simp; (try rw [if_neg (by omega)]); (try rw [if_pos (by omega)]); (try with_reducible rfl))
    try simp only [Act.put,wp1,wp2,wp3,wp4,wp5,wp6]
    refine wpAny_ready (rs:=[7]) (by kernel_rfl) (by simp) ?_
    refine (AllReady.cons rfl (fun K hK => ?_) AllReady.nil)
    ·go_simp
     refine hK _ _ ?_
     clear hK K
     try simp only [Act.put,wp1,wp2,wp3,wp4,wp5,wp6]
     refine wtn (i:=16) (v:=?a46) rfl ?b46 ?c46
     case b46 => (intro w; go_simp; (try rw [if_neg (by omega)]); (try rw [if_pos (by omega)]); (try with_reducible rfl))
     try simp only [Act.put,wp1,wp2,wp3,wp4,wp5,wp6]
     refine wtn (i:=17) (v:=?a48) rfl ?b48 ?c48
     case b48 => (intro w; go_simp; (try rw [if_neg (by omega)]); (try rw [if_pos (by omega)]); (try with_reducible rfl))
     try simp only [Act.put,wp1,wp2,wp3,wp4,wp5,wp6]
     refine wtn (i:=18) (v:=?a50) rfl ?b50 ?c50
     case b50 => (intro w; go_simp; (try rw [if_neg (by omega)]); (try rw [if_pos (by omega)]); (try with_reducible rfl))
     try simp only [Act.put,wp1,wp2,wp3,wp4,wp5,wp6]
     refine wtn (i:=19) (v:=?a52) rfl ?b52 ?c52
     case b52 => (intro w; go_simp; (try rw [if_neg (by omega)]); (try rw [if_pos (by omega)]); (try with_reducible rfl))
     try simp only [Act.put,wp1,wp2,wp3,wp4,wp5,wp6]
     refine wpAny_ready (rs:=[20]) (by kernel_rfl) (by simp) ?_
     refine (AllReady.cons rfl (fun K hK => ?_) AllReady.nil)
     ·go_simp
      have HS:=Lib.hid (HO.out.stored_row (k * 11 + 3) (.string (S.extract 0 (min (S.size : Int) 300).toNat)))
      refine hK _ _ ?_
      clear hK K
      try simp only [Act.put,wp1,wp2,wp3,wp4,wp5,wp6]
      refine wpAny_done (by kernel_rfl) ?_ _
      go_wp2_with fail
      go_roundw
      case rel => exact ⟨k + 1,by omega,by go_num,Lib.hid (by rw [← HST.out]; exact HS.out)⟩
      case measure => simp [intOf]; omega
  ·obtain rfl : n = k:=by omega
   have HFF:=keep (show ndaCells f0 = ndaCells ((t.take n).map cutN ++ t.drop n) by
    rw [HF.out,List.take_of_length_le (by rw [HN.out]; exact Nat.le_refl _),List.drop_eq_nil_of_le (by rw [HN.out]; exact Nat.le_refl _),List.append_nil])
   go_wp2_with fail
   go_ret
   exact ⟨_,rfl,by rw [HFF.out]; exact HO.out.own,HO.out.ok.bel⟩
end Go.Proofs.YtlbigmlaokdmdaaGreatDoor
