/- The kit's copies of the parts of a reply. -/
import Derived.Test.YtmalncmdfmoccaaGreatDoorCLnW
namespace Go.Proofs.YtmalncmdfmoccaaGreatDoor
open Go.RowKit
theorem flat_atR {α : Type} (f : α → List Value) (s : Nat) (hf : ∀ x,(f x).length = s) : ∀ (l : List α) (i : Nat) (x : α),l[i]? = some x → ∀ (j : Nat) (v : Value),(f x)[j]? = some v → (l.flatMap f)[i * s + j]? = some v
  | [],i,x,h,_,_,_ => by simp at h
  | y :: l,0,x,h,j,v,hj => by
    simp at h
    subst h
    rw [List.flatMap_cons,Nat.zero_mul,Nat.zero_add,List.getElem?_append_left (by have:=(List.getElem?_eq_some_iff.1 hj).1; exact this)]
    exact hj
  | y :: l,i + 1,x,h,j,v,hj => by
    have h9:=flat_atR f s hf l i x (by simpa using h) j v hj
    rw [List.flatMap_cons,List.getElem?_append_right (by rw [hf,Nat.add_mul]; omega),hf,show (i + 1) * s + j - s = i * s + j by rw [Nat.add_mul]; omega]
    exact h9
theorem rows_ownR {α : Type} (f : α → List Value) {s : Nat} (hf : ∀ x,(f x).length = s) {w : World} {base n : Nat} {e : TypeId} {v : Value} {l : List α} (h : w.ownsRow base e s v n (l.flatMap f)) (hn : n = l.length) : ∃ a c,v = .slice a l.length c ∧ l.length ≤ c ∧ c ≤ 9223372036854775807 ∧ RowsAt w a s (l.map f):=by
  subst hn
  have hc:=@World.ownsRow.cells _ _ _ _ _ _ _ h
  have hlt:=h.lt
  rcases h.2 with ⟨rfl,h0⟩ | ⟨g,cap,cur,rfl,h4,h5,h6,h7,h8,h9⟩
  · refine ⟨none,0,by rw [h0],by omega,by omega,fun hne => ?_⟩
    rw [List.length_eq_zero_iff.1 h0] at hne
    exact absurd rfl hne
  · refine ⟨_,cap,rfl,h6,by unfold maxLen at h7; omega,fun _ => ⟨g,0,rfl,(hlt g rfl).2,fun i r hi j v hj => ?_⟩⟩
    rw [List.getElem?_map] at hi
    obtain ⟨x,hx,rfl⟩:=Option.map_eq_some_iff.1 hi
    have h10:=hc rfl _ v (flat_atR f s hf l i x hx j v hj)
    rw [show (⟨g,0,none⟩ : Addr).add (i * s + j) = ⟨g,0 + (i * s + j),none⟩ by unfold Addr.add; split <;> simp_all] at h10
    exact h10
theorem flat_backR {α : Type} (f : α → List Value) (s : Nat) (hf : ∀ x,(f x).length = s) : ∀ (l : List α) (j : Nat) (v : Value),(l.flatMap f)[j]? = some v → ∃ i x k,l[i]? = some x ∧ j = i * s + k ∧ (f x)[k]? = some v:=by
  intro l
  induction l with
  | nil => intro j v h; cases h
  | cons x l ih =>
    intro j v h
    rw [List.flatMap_cons] at h
    by_cases hj : j < (f x).length
    · rw [List.getElem?_append_left hj] at h
      exact ⟨0,x,j,rfl,by omega,h⟩
    · rw [List.getElem?_append_right (by omega)] at h
      obtain ⟨i,y,k,h1,h2,h3⟩:=ih _ _ h
      refine ⟨i + 1,y,k,h1,?_,h3⟩
      rw [hf] at h2 hj
      rw [Nat.succ_mul]
      omega
theorem flat_len {α : Type} (f : α → List Value) (s : Nat) (hf : ∀ x,(f x).length = s) (l : List α) : (l.flatMap f).length = l.length * s:=by
  induction l with
  | nil => rw [List.flatMap_nil]; simp
  | cons x l ih => rw [List.flatMap_cons,List.length_append,ih,hf,List.length_cons,Nat.succ_mul,Nat.add_comm]
theorem flat_one {α : Type} (f : α → List Value) (hf : ∀ x,∀ u ∈ f x,u.oneCell' = true) (l : List α) : ∀ u ∈ l.flatMap f,u.oneCell' = true:=by
  intro u hu
  obtain ⟨t,-,ht⟩:=List.mem_flatMap.1 hu
  exact hf t u ht
theorem wpList_runFR {P : Program} {w w' : World} {ops : Array Oper} {rest : List Oper} {o : Oper} {a : Act} {Q : Exit → Act → World → Prop} {v : Value} (hgd : o.guard = none) (s x : Operand) (t : TypeId)
    (ho : o.op = .call { callee:=.builtin .append,args:=#[s,x],argTypes:=#[t,t] }) (V X : Value) (hs : a.eval s = V) (hx : a.eval x = X) (hr : (Builtin.append_ #[t,t] o.type #[V,X]).run P w = .ok v w')
    (h : wpList P ops Q rest (a.put o.dst v) w') : wpList P ops Q (o :: rest) a w:=by
  refine wpList_plain hgd fun K hK => ?_
  unfold Oper.wp execOp
  simp only [ho,resolve,invoke,builtin,Sem.run_bind,Sem.run_pure,Result.andThen_ok,List.map_toArray,List.map_cons,List.map_nil,hs,hx,hr]
  exact hK _ _ h
theorem info_copy_vals : (Tryz.prog.info? 59).map (fun i => (i.zero,i.size,i.bytes)) = some (some (.agg #[.int .u8 0,.int .i64 0,.string ⟨#[]⟩]),3,32):=by kernel_rfl
set_option maxRecDepth 100000 in
set_option maxHeartbeats 8000000 in
theorem copy_vals (t : List VlL) (a : Option Addr) (c : Nat) (w : World) (h : RowsAt w a 3 (t.map vlRow)) (hn : t.length ≤ 100000) :
    Calls Tryz.prog 16 #[.slice a t.length c] w fun e w' => ∃ u,e = .returned u ∧ w'.ownsRow w.heap.size 59 3 u t.length (t.flatMap vlRow) ∧ Below w.heap.size w w':=by
  obtain ⟨i0,hi,hz0,hz1,hz2⟩:=info_parts info_copy_vals
  obtain ⟨n,hnn⟩ : ∃ n,t.length = n:=⟨_,rfl⟩
  have HN:=keep hnn
  rw [hnn] at hn ⊢
  have HCL:=keep (flat_len vlRow 3 (fun _ => rfl) t)
  have HONE:=keep (flat_one vlRow (by intro x u hu; unfold vlRow at hu; simp at hu; rcases hu with rfl | rfl | rfl <;> rfl) t)
  have H0:=Lib.hid (OkRow.start (Ok.start w) 59 3)
  by_cases h0 : n = 0
  · subst h0
    have hxs : t.flatMap vlRow = []:=by rw [List.length_eq_zero_iff.1 HN.out]; rfl
    rw [hxs]
    clear HCL HONE hxs h hnn HN
    have hap : (Builtin.append_ #[22,22] 22 #[.slice none 0 0,.slice a 0 c]).run Tryz.prog w = .ok (.slice none 0 0) w:=by
      cases a <;> simp [Builtin.append_,run_underlying Tryz.underlying22,sizeOf,typeInfo,hi,Builtin.lenOf,Builtin.firstCells,loadCells,loadCellsFrom]
    go_enter Tryz.func16,Tryz.ntmps16
    go_wp2_with (at_builtin; refine wpList_runFR rfl _ _ _ rfl _ _ rfl rfl hap ?_)
    go_ret
    exact ⟨_,rfl,World.ownsRow_nil _ _ _ _,Below.refl _ _⟩
  · obtain ⟨b,o,rfl,hB,hc⟩:=h (by intro e; rw [List.map_eq_nil_iff.1 e] at hnn; exact h0 (by rw [← hnn]; rfl))
    have HNW:=keep (show ∀ j u,(t.flatMap vlRow)[j]? = some u → w.cell? ((⟨b,o,none⟩ : Addr).add j) = some u from fun j u hu => by
      obtain ⟨i,x,k,e1,rfl,e3⟩:=flat_backR vlRow 3 (fun _ => rfl) t j u hu
      have h9:=hc i (vlRow x) (by rw [List.getElem?_map,e1]; rfl) k u e3
      rw [← h9]
      congr 1
      unfold Addr.add; split <;> simp_all)
    clear h hc hnn
    rw [HN.out] at HCL
    generalize t.flatMap vlRow = xs at HCL HONE HNW ⊢
    clear HN
    go_enter Tryz.func16,Tryz.ntmps16
    go_wp2_with (at_builtin; refine wpList_append_lies _ rfl _ _ _ rfl w.heap.size 59 i0 _ 3 32 Tryz.underlying22 hi hz0 hz1 hz2 rfl (by omega) _ _ _ rfl H0.out.own ⟨b,o,none⟩ n c xs rfl HCL.out HNW.out HONE.out (by omega) (by unfold maxLen; omega) (by omega) (Nat.le_refl _) _ rfl ?_; intro g3 cap3 w3 hown3 hgrow3 hat3 hlt3)
    go_ret
    have h9:=H0.out.appended hown3 hgrow3 hat3
    exact ⟨.slice (some ⟨g3,0,none⟩) n cap3,rfl,by have h8:=h9.own; rwa [Nat.zero_add,List.nil_append] at h8,h9.ok.bel⟩
theorem info_copy_evs : (Tryz.prog.info? 71).map (fun i => (i.zero,i.size,i.bytes)) = some (some (.agg #[.int .i64 0,.int .i64 0,.int .u8 0,.int .i64 0,.int .i64 0,.int .i64 0,.int .i64 0,.bool false,.int .u64 0]),9,72):=by kernel_rfl
set_option maxRecDepth 100000 in
set_option maxHeartbeats 8000000 in
theorem copy_evs (t : List EvD) (a : Option Addr) (c : Nat) (w : World) (h : RowsAt w a 9 (t.map evRow)) (hn : t.length ≤ 100000) :
    Calls Tryz.prog 17 #[.slice a t.length c] w fun e w' => ∃ u,e = .returned u ∧ w'.ownsRow w.heap.size 71 9 u t.length (t.flatMap evRow) ∧ Below w.heap.size w w':=by
  obtain ⟨i0,hi,hz0,hz1,hz2⟩:=info_parts info_copy_evs
  obtain ⟨n,hnn⟩ : ∃ n,t.length = n:=⟨_,rfl⟩
  have HN:=keep hnn
  rw [hnn] at hn ⊢
  have HCL:=keep (flat_len evRow 9 (fun _ => rfl) t)
  have HONE:=keep (flat_one evRow (by intro x u hu; unfold evRow at hu; simp at hu; rcases hu with rfl | rfl | rfl | rfl | rfl | rfl | rfl | rfl | rfl <;> rfl) t)
  have H0:=Lib.hid (OkRow.start (Ok.start w) 71 9)
  by_cases h0 : n = 0
  · subst h0
    have hxs : t.flatMap evRow = []:=by rw [List.length_eq_zero_iff.1 HN.out]; rfl
    rw [hxs]
    clear HCL HONE hxs h hnn HN
    have hap : (Builtin.append_ #[23,23] 23 #[.slice none 0 0,.slice a 0 c]).run Tryz.prog w = .ok (.slice none 0 0) w:=by
      cases a <;> simp [Builtin.append_,run_underlying Tryz.underlying23,sizeOf,typeInfo,hi,Builtin.lenOf,Builtin.firstCells,loadCells,loadCellsFrom]
    go_enter Tryz.func17,Tryz.ntmps17
    go_wp2_with (at_builtin; refine wpList_runFR rfl _ _ _ rfl _ _ rfl rfl hap ?_)
    go_ret
    exact ⟨_,rfl,World.ownsRow_nil _ _ _ _,Below.refl _ _⟩
  · obtain ⟨b,o,rfl,hB,hc⟩:=h (by intro e; rw [List.map_eq_nil_iff.1 e] at hnn; exact h0 (by rw [← hnn]; rfl))
    have HNW:=keep (show ∀ j u,(t.flatMap evRow)[j]? = some u → w.cell? ((⟨b,o,none⟩ : Addr).add j) = some u from fun j u hu => by
      obtain ⟨i,x,k,e1,rfl,e3⟩:=flat_backR evRow 9 (fun _ => rfl) t j u hu
      have h9:=hc i (evRow x) (by rw [List.getElem?_map,e1]; rfl) k u e3
      rw [← h9]
      congr 1
      unfold Addr.add; split <;> simp_all)
    clear h hc hnn
    rw [HN.out] at HCL
    generalize t.flatMap evRow = xs at HCL HONE HNW ⊢
    clear HN
    go_enter Tryz.func17,Tryz.ntmps17
    go_wp2_with (at_builtin; refine wpList_append_lies _ rfl _ _ _ rfl w.heap.size 71 i0 _ 9 72 Tryz.underlying23 hi hz0 hz1 hz2 rfl (by omega) _ _ _ rfl H0.out.own ⟨b,o,none⟩ n c xs rfl HCL.out HNW.out HONE.out (by omega) (by unfold maxLen; omega) (by omega) (Nat.le_refl _) _ rfl ?_; intro g3 cap3 w3 hown3 hgrow3 hat3 hlt3)
    go_ret
    have h9:=H0.out.appended hown3 hgrow3 hat3
    exact ⟨.slice (some ⟨g3,0,none⟩) n cap3,rfl,by have h8:=h9.own; rwa [Nat.zero_add,List.nil_append] at h8,h9.ok.bel⟩
theorem info_copy_rls : (Tryz.prog.info? 76).map (fun i => (i.zero,i.size,i.bytes)) = some (some (.agg #[.int .i64 0,.int .i64 0,.int .i64 0,.int .i64 0,.int .u8 0,.int .i64 0,.int .i64 0,.int .i64 0,.int .i64 0,.int .i64 0,.int .u64 0]),11,88):=by kernel_rfl
set_option maxRecDepth 100000 in
set_option maxHeartbeats 8000000 in
theorem copy_rls (t : List RlD) (a : Option Addr) (c : Nat) (w : World) (h : RowsAt w a 11 (t.map rlRow)) (hn : t.length ≤ 100000) :
    Calls Tryz.prog 18 #[.slice a t.length c] w fun e w' => ∃ u,e = .returned u ∧ w'.ownsRow w.heap.size 76 11 u t.length (t.flatMap rlRow) ∧ Below w.heap.size w w':=by
  obtain ⟨i0,hi,hz0,hz1,hz2⟩:=info_parts info_copy_rls
  obtain ⟨n,hnn⟩ : ∃ n,t.length = n:=⟨_,rfl⟩
  have HN:=keep hnn
  rw [hnn] at hn ⊢
  have HCL:=keep (flat_len rlRow 11 (fun _ => rfl) t)
  have HONE:=keep (flat_one rlRow (by intro x u hu; unfold rlRow at hu; simp at hu; rcases hu with rfl | rfl | rfl | rfl | rfl | rfl | rfl | rfl | rfl | rfl | rfl <;> rfl) t)
  have H0:=Lib.hid (OkRow.start (Ok.start w) 76 11)
  by_cases h0 : n = 0
  · subst h0
    have hxs : t.flatMap rlRow = []:=by rw [List.length_eq_zero_iff.1 HN.out]; rfl
    rw [hxs]
    clear HCL HONE hxs h hnn HN
    have hap : (Builtin.append_ #[24,24] 24 #[.slice none 0 0,.slice a 0 c]).run Tryz.prog w = .ok (.slice none 0 0) w:=by
      cases a <;> simp [Builtin.append_,run_underlying Tryz.underlying24,sizeOf,typeInfo,hi,Builtin.lenOf,Builtin.firstCells,loadCells,loadCellsFrom]
    go_enter Tryz.func18,Tryz.ntmps18
    go_wp2_with (at_builtin; refine wpList_runFR rfl _ _ _ rfl _ _ rfl rfl hap ?_)
    go_ret
    exact ⟨_,rfl,World.ownsRow_nil _ _ _ _,Below.refl _ _⟩
  · obtain ⟨b,o,rfl,hB,hc⟩:=h (by intro e; rw [List.map_eq_nil_iff.1 e] at hnn; exact h0 (by rw [← hnn]; rfl))
    have HNW:=keep (show ∀ j u,(t.flatMap rlRow)[j]? = some u → w.cell? ((⟨b,o,none⟩ : Addr).add j) = some u from fun j u hu => by
      obtain ⟨i,x,k,e1,rfl,e3⟩:=flat_backR rlRow 11 (fun _ => rfl) t j u hu
      have h9:=hc i (rlRow x) (by rw [List.getElem?_map,e1]; rfl) k u e3
      rw [← h9]
      congr 1
      unfold Addr.add; split <;> simp_all)
    clear h hc hnn
    rw [HN.out] at HCL
    generalize t.flatMap rlRow = xs at HCL HONE HNW ⊢
    clear HN
    go_enter Tryz.func18,Tryz.ntmps18
    go_wp2_with (at_builtin; refine wpList_append_lies _ rfl _ _ _ rfl w.heap.size 76 i0 _ 11 88 Tryz.underlying24 hi hz0 hz1 hz2 rfl (by omega) _ _ _ rfl H0.out.own ⟨b,o,none⟩ n c xs rfl HCL.out HNW.out HONE.out (by omega) (by unfold maxLen; omega) (by omega) (Nat.le_refl _) _ rfl ?_; intro g3 cap3 w3 hown3 hgrow3 hat3 hlt3)
    go_ret
    have h9:=H0.out.appended hown3 hgrow3 hat3
    exact ⟨.slice (some ⟨g3,0,none⟩) n cap3,rfl,by have h8:=h9.own; rwa [Nat.zero_add,List.nil_append] at h8,h9.ok.bel⟩
end Go.Proofs.YtmalncmdfmoccaaGreatDoor
