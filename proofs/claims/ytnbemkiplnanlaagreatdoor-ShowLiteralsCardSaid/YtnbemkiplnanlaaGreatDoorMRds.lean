/- Plain: what the parser hands back is a tree that is shown. The kit's CopyTree; the statements' Few. The statement's own 'reads' and 'awake' of chapter 10. -/
import Derived.Test.YtnbemkiplnanlaaGreatDoorMParP
import Derived.Test.YtnbemkiplnanlaaGreatDoorMTxv
import Derived.Test.YtnbemkiplnanlaaGreatDoorMOut
import Derived.Test.YtnbemkiplnanlaaGreatDoorMGiv
import Derived.Test.YtnbemkiplnanlaaGreatDoorMShc
import Derived.Test.YtnbemkiplnanlaaGreatDoorMTxt
namespace Go.Proofs.YtnbemkiplnanlaaGreatDoor
open Go.RowKit
def MAX : Int:=9223372036854775807
theorem nums_app {ns ms : List Nd} (h : ∀ y ∈ ns,y.vn ≤ MAX) (g : ∀ y ∈ ms,y.vn ≤ MAX) : ∀ y ∈ ns ++ ms,y.vn ≤ MAX:=by
 intro y hy
 rcases List.mem_append.1 hy with hy | hy
 ·exact h y hy
 ·exact g y hy
theorem nums_cons {ms : List Nd} {x : Nd} (hx : x.vn ≤ MAX) (g : ∀ y ∈ ms,y.vn ≤ MAX) : ∀ y ∈ x :: ms,y.vn ≤ MAX:=by
 intro y hy
 rcases List.mem_cons.1 hy with rfl | hy
 ·exact hx
 ·exact g y hy
theorem nums_snoc {ns : List Nd} {x : Nd} (h : ∀ y ∈ ns,y.vn ≤ MAX) (hx : x.vn ≤ MAX) : ∀ y ∈ ns ++ [x],y.vn ≤ MAX:=nums_app h (nums_cons hx (by simp))
theorem zero_max {x : Nd} (h : x.vn = 0) : x.vn ≤ MAX:=by rw [h]; decide
theorem Pk.nums {m : Md} {ts u : List Tk} {ns : List Nd} {n : Nat} (h : Pk m ts u ns n) : (∀ t ∈ ts,t.num ≤ MAX) → ∀ x ∈ ns,x.vn ≤ MAX:=by
 induction h with
 | lv5 _ _ ih => intro hg; exact ih hg
 | lv hk h _ ih1 ih2 => intro hg; exact nums_app (ih1 hg) (ih2 fun t ht => hg t (h.sub t ht))
 | nil => intro _; simp
 | stop => intro _; simp
 | op h8 hk h _ ih1 ih2 => intro hg; exact nums_app (ih1 fun t ht => hg t (by simp [ht])) (nums_cons (zero_max rfl) (ih2 fun t ht => hg t (by simp [h.sub t ht])))
 | neg _ _ _ ih => intro hg; exact nums_snoc (ih fun t ht => hg t (by simp [ht])) (zero_max rfl)
 | bare _ _ _ ih => intro hg; exact ih hg
 | pow _ h _ _ _ ih1 ih2 => intro hg; exact nums_app (ih1 hg) (nums_snoc (ih2 fun t ht => hg t (h.sub t (by simp [ht]))) (zero_max rfl))
 | pc _ ih =>
  intro hg
  refine nums_app (ih hg) fun y hy => ?_
  rw [(List.mem_replicate.1 hy).2]
  exact zero_max rfl
 | @val t l h1 h4 => intro hg; exact nums_cons (by have:=hg t (by simp); show (if t.kind = 2 then 0 else t.num) ≤ MAX; split <;> first | decide | exact this) (by simp)
 | ref h5 => intro hg; exact nums_cons (zero_max rfl) (by simp)
 | par _ _ _ ih => intro hg; exact ih fun t ht => hg t (by simp [ht])
 | call h7 hf ho h hc h1 h2 hd ih => intro hg; exact nums_snoc (ih fun t ht => hg t (by simp [ht])) (zero_max rfl)
 | argE _ _ _ ih => intro hg; exact ih hg
 | argC _ h _ _ ih1 ih2 => intro hg; exact nums_app (ih1 hg) (ih2 fun t ht => hg t (h.sub t (by simp [ht])))
 | rngE h6 => intro hg; exact nums_cons (zero_max rfl) (by simp)
 | rngC h6 _ _ _ ih => intro hg; exact nums_cons (zero_max rfl) (ih fun t ht => hg t (by simp [ht]))
theorem form_good {L : List UInt8} {t : List Nd} {a : Int} (h : formS L = (t,a,0)) : a = 0 ∧ checkA (t.map Nd.any) = 0 ∧ ASz (t.map Nd.any) ∧ (∀ n ∈ t,NdC n) ∧ checkS t = 0 ∧ ∃ ts n,tokensS L = (ts,0,0) ∧ Pk (.lv 1) ts [] t n:=by
 rcases form_cases L with ⟨a',e',h',he,-,-⟩ | ⟨ts,ns,n,h',ht,hp,hc⟩
 ·rw [h] at h'
  exact absurd (Prod.mk.inj (Prod.mk.inj h').2).2.symm he
 ·rw [h] at h'
  obtain ⟨rfl,h2⟩:=Prod.mk.inj h'
  obtain ⟨rfl,-⟩:=Prod.mk.inj h2
  obtain ⟨-,-,-,hlex⟩:=tokens_ok ht
  have hnum:=hp.nums fun t ht => (hlex.nums t ht).2
  have hgood:=hp.good (by simp only [okM]) (tokens_good ht)
  have hck : checkA (t.map Nd.any) = 0:=by rw [checkA_any hgood]; exact hc
  obtain ⟨-,-,-,hlen,-⟩:=checkA_zero hck
  have hndc : ∀ n ∈ t,NdC n:=fun n hn => nd_of_good (hgood n hn) (hnum n hn)
  refine ⟨rfl,hck,⟨by omega,?_,?_⟩,hndc,hc,ts,n,ht,hp⟩
  ·intro x hx
   obtain ⟨y,hy,rfl⟩:=List.mem_map.1 hx
   have:=good_text (hgood y hy)
   show y.vt.length ≤ _
   omega
  ·intro x hx
   obtain ⟨y,hy,rfl⟩:=List.mem_map.1 hx
   exact hnum y hy
end Go.Proofs.YtnbemkiplnanlaaGreatDoor
namespace Go.Proofs.YtnbemkiplnanlaaGreatDoor
set_option maxRecDepth 100000
set_option maxHeartbeats 8000000
open Go.RowKit
def ndaCells (t : List NdA) : List Value:=t.flatMap aRow
theorem ndaCells_len (t : List NdA) : (ndaCells t).length = t.length * 11:=by
 unfold ndaCells
 induction t with
 | nil => rfl
 | cons t l ih => rw [List.flatMap_cons,List.length_append,ih,List.length_cons]; show 11 + _ = _; omega
theorem ndaCells_one (t : List NdA) : ∀ u ∈ ndaCells t,u.oneCell' = true:=by
 intro u hu
 unfold ndaCells at hu
 obtain ⟨t,-,ht⟩:=List.mem_flatMap.1 hu
 unfold aRow at ht
 simp at ht
 rcases ht with rfl | rfl | rfl | rfl | rfl | rfl | rfl | rfl | rfl | rfl | rfl <;> rfl
theorem nda_own {w : World} {base : Nat} {v : Value} {t : List NdA} (h : w.ownsRow base 41 11 v t.length (ndaCells t)) : ∃ a c,v = .slice a t.length c ∧ t.length ≤ c ∧ c ≤ maxLen ∧ RowsAt w a 11 (t.map aRow):=by
 obtain ⟨a,c,h1,h2,h3,h4⟩:=rows_own aRow (fun _ => rfl) h rfl
 exact ⟨a,c,h1,h2,h3,h4⟩
theorem flat_back {α : Type} (f : α → List Value) (s : Nat) (hf : ∀ x,(f x).length = s) : ∀ (l : List α) (j : Nat) (v : Value),(l.flatMap f)[j]? = some v → ∃ i x k,l[i]? = some x ∧ j = i * s + k ∧ (f x)[k]? = some v:=by
 intro l
 induction l with
 | nil => intro j v h; cases h
 | cons x l ih =>
  intro j v h
  rw [List.flatMap_cons] at h
  by_cases hj : j < (f x).length
  ·rw [List.getElem?_append_left hj] at h
   exact ⟨0,x,j,rfl,by omega,h⟩
  ·rw [List.getElem?_append_right (by omega)] at h
   obtain ⟨i,y,k,h1,h2,h3⟩:=ih _ _ h
   refine ⟨i + 1,y,k,h1,?_,h3⟩
   rw [hf] at h2 hj
   rw [Nat.succ_mul]
   omega
def cutN (n : NdA) : NdA:={ n with vt:=n.vt.take 300 }
def few (t : List NdA) : List NdA:=(t.take 300).map cutN
theorem few_le (t : List NdA) : (few t).length ≤ 300:=by
 unfold few
 rw [List.length_map,List.length_take]
 omega
theorem few_in {t : List NdA} (h : ∀ n ∈ t,NdIn n) : ∀ n ∈ few t,NdIn n ∧ n.vt.length ≤ 300:=by
 intro n hn
 obtain ⟨x,hx,rfl⟩:=List.mem_map.1 hn
 have h1:=h x (List.mem_of_mem_take hx)
 have h2 : (x.vt.take 300).length ≤ 300:=by rw [List.length_take]; omega
 exact ⟨⟨h1.num,Nat.le_trans h2 (by decide)⟩,h2⟩
theorem few_few {t : List NdA} (h : t.length ≤ 300) (h2 : ∀ n ∈ t,n.vt.length ≤ 300) : few t = t:=by
 unfold few
 rw [List.take_of_length_le h]
 conv => rhs; rw [← List.map_id t]
 refine List.map_congr_left fun n hn => ?_
 unfold cutN
 rw [List.take_of_length_le (h2 n hn)]
 rfl
theorem nda_set : ∀ (l : List NdA) (k : Nat) (x : NdA) (v : List UInt8),l[k]? = some x → (ndaCells l).set (k * 11 + 3) (.string ⟨v.toArray⟩) = ndaCells (l.set k { x with vt:=v }):=by
 intro l
 induction l with
 | nil => intro k x v h; cases h
 | cons y l ih =>
  intro k x v h
  unfold ndaCells
  cases k with
  | zero =>
   simp only [List.getElem?_cons_zero,Option.some.injEq] at h
   subst h
   rw [List.set_cons_zero,List.flatMap_cons,List.flatMap_cons]
   rfl
  | succ k =>
   rw [List.set_cons_succ,List.flatMap_cons,List.flatMap_cons,List.set_append_right _ _ (by show 11 ≤ _; omega)]
   congr 1
   have:=ih k x v h
   unfold ndaCells at this
   rw [← this]
   congr 1
   show (k + 1) * 11 + 3 - 11 = _
   omega
theorem cut_step (t : List NdA) (k : Nat) (h : k < t.length) : ((t.take k).map cutN ++ t.drop k).set k (cutN t[k]) = (t.take (k + 1)).map cutN ++ t.drop (k + 1):=by
 have h1 : ((t.take k).map cutN).length = k:=by rw [List.length_map,List.length_take]; omega
 rw [List.set_append_right _ _ (by omega),h1,Nat.sub_self,List.drop_eq_getElem_cons h,List.set_cons_zero,List.take_succ_eq_append_getElem h,List.map_append,List.append_assoc]
 rfl
theorem cut_at (t : List NdA) (k : Nat) (h : k < t.length) : ((t.take k).map cutN ++ t.drop k)[k]? = some t[k]:=by
 have h1 : ((t.take k).map cutN).length = k:=by rw [List.length_map,List.length_take]; omega
 rw [List.getElem?_append_right (by omega),h1,Nat.sub_self,List.getElem?_drop]
 simp [h]
theorem wpList_runF {P : Program} {w w' : World} {ops : Array Oper} {rest : List Oper} {o : Oper} {a : Act} {Q : Exit → Act → World → Prop} {v : Value} (hgd : o.guard = none) (s x : Operand) (t : TypeId)
  (ho : o.op = .call { callee:=.builtin .append,args:=#[s,x],argTypes:=#[t,t] }) (V X : Value) (hs : a.eval s = V) (hx : a.eval x = X) (hr : (Builtin.append_ #[t,t] o.type #[V,X]).run P w = .ok v w')
  (h : wpList P ops Q rest (a.put o.dst v) w') : wpList P ops Q (o :: rest) a w:=by
 refine wpList_plain hgd fun K hK => ?_
 unfold Oper.wp execOp
 simp only [ho,resolve,invoke,builtin,Sem.run_bind,Sem.run_pure,Result.andThen_ok,List.map_toArray,List.map_cons,List.map_nil,hs,hx,hr]
 exact hK _ _ h
theorem copy_tree (t : List NdA) (a : Option Addr) (c : Nat) (w : World) (h : RowsAt w a 11 (t.map aRow)) (hn : t.length ≤ 100000) :
  Calls Tryz.prog 42 #[.slice a t.length c] w fun e w' => ∃ u,e = .returned u ∧ w'.ownsRow w.heap.size 41 11 u t.length (ndaCells t) ∧ Below w.heap.size w w':=by
 obtain ⟨i0,hi,hz0,hz1,hz2⟩:=info_parts info_node
 obtain ⟨n,hnn⟩ : ∃ n,t.length = n:=⟨_,rfl⟩
 have HN:=keep hnn
 rw [hnn] at hn ⊢
 have HCL:=keep (ndaCells_len t)
 have HONE:=keep (ndaCells_one t)
 have H0:=Lib.hid (OkRow.start (Ok.start w) 41 11)
 by_cases h0 : n = 0
 ·subst h0
  have hxs : ndaCells t = []:=by rw [List.length_eq_zero_iff.1 HN.out]; rfl
  rw [hxs]
  clear HCL HONE hxs h hnn HN
  have hap : (Builtin.append_ #[22,22] 22 #[.slice none 0 0,.slice a 0 c]).run Tryz.prog w = .ok (.slice none 0 0) w:=by
   cases a <;> simp [Builtin.append_,run_underlying Tryz.underlying22,sizeOf,typeInfo,hi,Builtin.lenOf,Builtin.firstCells,loadCells,loadCellsFrom]
  go_enter Tryz.func42,Tryz.ntmps42
  go_wp2_with (at_builtin; refine wpList_runF rfl _ _ _ rfl _ _ rfl rfl hap ?_)
  go_ret
  exact ⟨_,rfl,World.ownsRow_nil _ _ _ _,Below.refl _ _⟩
 ·obtain ⟨b,o,rfl,hB,hc⟩:=h (by intro e; rw [List.map_eq_nil_iff.1 e] at hnn; exact h0 (by rw [← hnn]; rfl))
  have HNW:=keep (show ∀ j u,(ndaCells t)[j]? = some u → w.cell? ((⟨b,o,none⟩ : Addr).add j) = some u from fun j u hu => by
   obtain ⟨i,x,k,e1,rfl,e3⟩:=flat_back aRow 11 (fun _ => rfl) t j u hu
   have h9:=hc i (aRow x) (by rw [List.getElem?_map,e1]; rfl) k u e3
   rw [← h9]
   congr 1
   unfold Addr.add; split <;> simp_all)
  clear h hc hnn
  rw [HN.out] at HCL
  generalize ndaCells t = xs at HCL HONE HNW ⊢
  clear HN
  go_enter Tryz.func42,Tryz.ntmps42
  go_wp2_with (at_builtin; refine wpList_append_lies _ rfl _ _ _ rfl w.heap.size 41 i0 _ 11 96 Tryz.underlying22 hi hz0 hz1 hz2 rfl (by omega) _ _ _ rfl H0.out.own ⟨b,o,none⟩ n c xs rfl HCL.out HNW.out HONE.out (by omega) (by unfold maxLen; omega) (by omega) (Nat.le_refl _) _ rfl ?_; intro g3 cap3 w3 hown3 hgrow3 hat3 hlt3)
  go_ret
  have h9:=H0.out.appended hown3 hgrow3 hat3
  exact ⟨.slice (some ⟨g3,0,none⟩) n cap3,rfl,by have h8:=h9.own; rwa [Nat.zero_add,List.nil_append] at h8,h9.ok.bel⟩
end Go.Proofs.YtnbemkiplnanlaaGreatDoor
namespace Go.Proofs.YtnbemkiplnanlaaGreatDoor
set_option maxRecDepth 100000
set_option maxHeartbeats 8000000
open Go.RowKit
theorem show_parsed {L : List UInt8} {t : List Nd} {a : Int} (h : formS L = (t,a,0)) (hl : (showT t).length ≤ 256) : showF (t.map Nd.any) = (showT t,0):=by
 obtain ⟨-,hc,-⟩:=form_good h
 rw [showF_ok hc (by rw [map_any]; omega),map_any]
theorem show_parsed_long {L : List UInt8} {t : List Nd} {a : Int} (h : formS L = (t,a,0)) (hl : 256 < (showT t).length) : showF (t.map Nd.any) = ([],5):=by
 obtain ⟨-,hc,-⟩:=form_good h
 rw [showF_long hc (by rw [map_any]; omega)]
theorem law_reads (s want : ByteArray) (t : List Nd) (w : World) (hs : s.size ≤ 1000) (hf : formS s.data.toList = (t,0,0)) (hl : (showT t).length ≤ 256) (hx : (⟨(showT t).toArray⟩ : ByteArray) = want) (he : WEnv w) :
  Calls Tryz.prog 50 #[.string s,.string want] w fun e w' => e = .returned (.bool true) ∧ Below w.heap.size w w':=by
 have HF:=keep hf
 have HS:=keep (show showF (t.map Nd.any) = (showT t,0) from show_parsed hf hl)
 have HX:=keep hx
 have HE:=keep he
 obtain ⟨-,hck,hsz,-⟩:=form_good hf
 have HSZ:=keep hsz
 have HLN:=keep (show (t.map Nd.any).length = t.length from List.length_map ..)
 clear hf hx he hck hsz hl
 go_enter Tryz.func50,Tryz.ntmps50
 go_wp2_with fail
 refine (parse_Formula s _ (by omega) HE.out.1).mono ?_
 rintro e w1 ⟨v,rfl,hown,hb⟩
 rw [HF.out] at hown ⊢
 simp only [] at hown ⊢
 obtain ⟨a,c,rfl⟩:=own_len hown
 obtain ⟨-,hrow⟩:=rows_get hown
 have HR:=keep hrow
 have HB:=Lib.hid hb
 clear hown hrow hb HF
 go_wp2_with fail
 rw [← HLN.out]
 refine (show_Formula (t.map Nd.any) a c w1 HSZ.out ⟨by rw [any_rows]; exact HR.out,HE.out.below HB.out⟩).mono ?_
 rintro e w2 ⟨rfl,hb⟩
 rw [HS.out]
 simp only []
 rw [HX.out]
 have HB2:=Lib.hid (HB.out.trans (hb.mono HB.out.size))
 clear hb HB HR HS HX HSZ HLN
 go_wp2_with fail
 go_ret
 exact ⟨by simp,HB2.out⟩
theorem rd_form0 : formS [40,32,49,43,50,32,41,42,51] = ([ndNum 10000,ndNum 20000,ndBin 1,ndNum 30000,ndBin 3],0,0):=by kernel_rfl
theorem rd_text0 : showT [ndNum 10000,ndNum 20000,ndBin 1,ndNum 30000,ndBin 3] = [40,49,43,50,41,42,51]:=by kernel_rfl
theorem rd_0 (w : World) (he : WEnv w) : Calls Tryz.prog 50 #[.string ⟨#[40,32,49,43,50,32,41,42,51]⟩,.string ⟨#[40,49,43,50,41,42,51]⟩] w fun e w' => e = .returned (.bool true) ∧ Below w.heap.size w w' :=
 law_reads ⟨#[40,32,49,43,50,32,41,42,51]⟩ ⟨#[40,49,43,50,41,42,51]⟩ _ w (by decide) rd_form0 (by rw [rd_text0]; decide) (by rw [rd_text0]) he
theorem rd_form1 : formS [49,45,40,50,45,51,41] = ([ndNum 10000,ndNum 20000,ndNum 30000,ndBin 2,ndBin 2],0,0):=by kernel_rfl
theorem rd_text1 : showT [ndNum 10000,ndNum 20000,ndNum 30000,ndBin 2,ndBin 2] = [49,45,40,50,45,51,41]:=by kernel_rfl
theorem rd_1 (w : World) (he : WEnv w) : Calls Tryz.prog 50 #[.string ⟨#[49,45,40,50,45,51,41]⟩,.string ⟨#[49,45,40,50,45,51,41]⟩] w fun e w' => e = .returned (.bool true) ∧ Below w.heap.size w w' :=
 law_reads ⟨#[49,45,40,50,45,51,41]⟩ ⟨#[49,45,40,50,45,51,41]⟩ _ w (by decide) rd_form1 (by rw [rd_text1]; decide) (by rw [rd_text1]) he
theorem rd_form2 : formS [40,49,45,50,41,45,51] = ([ndNum 10000,ndNum 20000,ndBin 2,ndNum 30000,ndBin 2],0,0):=by kernel_rfl
theorem rd_text2 : showT [ndNum 10000,ndNum 20000,ndBin 2,ndNum 30000,ndBin 2] = [49,45,50,45,51]:=by kernel_rfl
theorem rd_2 (w : World) (he : WEnv w) : Calls Tryz.prog 50 #[.string ⟨#[40,49,45,50,41,45,51]⟩,.string ⟨#[49,45,50,45,51]⟩] w fun e w' => e = .returned (.bool true) ∧ Below w.heap.size w w' :=
 law_reads ⟨#[40,49,45,50,41,45,51]⟩ ⟨#[49,45,50,45,51]⟩ _ w (by decide) rd_form2 (by rw [rd_text2]; decide) (by rw [rd_text2]) he
theorem rd_form3 : formS [40,45,50,41,94,50] = ([ndNum 20000,ndNeg,ndNum 20000,ndBin 5],0,0):=by kernel_rfl
theorem rd_text3 : showT [ndNum 20000,ndNeg,ndNum 20000,ndBin 5] = [40,45,50,41,94,50]:=by kernel_rfl
theorem rd_3 (w : World) (he : WEnv w) : Calls Tryz.prog 50 #[.string ⟨#[40,45,50,41,94,50]⟩,.string ⟨#[40,45,50,41,94,50]⟩] w fun e w' => e = .returned (.bool true) ∧ Below w.heap.size w w' :=
 law_reads ⟨#[40,45,50,41,94,50]⟩ ⟨#[40,45,50,41,94,50]⟩ _ w (by decide) rd_form3 (by rw [rd_text3]; decide) (by rw [rd_text3]) he
theorem rd_form4 : formS [45,40,50,94,50,41] = ([ndNum 20000,ndNum 20000,ndBin 5,ndNeg],0,0):=by kernel_rfl
theorem rd_text4 : showT [ndNum 20000,ndNum 20000,ndBin 5,ndNeg] = [45,50,94,50]:=by kernel_rfl
theorem rd_4 (w : World) (he : WEnv w) : Calls Tryz.prog 50 #[.string ⟨#[45,40,50,94,50,41]⟩,.string ⟨#[45,50,94,50]⟩] w fun e w' => e = .returned (.bool true) ∧ Below w.heap.size w w' :=
 law_reads ⟨#[45,40,50,94,50,41]⟩ ⟨#[45,50,94,50]⟩ _ w (by decide) rd_form4 (by rw [rd_text4]; decide) (by rw [rd_text4]) he
theorem rd_form5 : formS [50,94,40,51,94,50,41] = ([ndNum 20000,ndNum 30000,ndNum 20000,ndBin 5,ndBin 5],0,0):=by kernel_rfl
theorem rd_text5 : showT [ndNum 20000,ndNum 30000,ndNum 20000,ndBin 5,ndBin 5] = [50,94,51,94,50]:=by kernel_rfl
theorem rd_5 (w : World) (he : WEnv w) : Calls Tryz.prog 50 #[.string ⟨#[50,94,40,51,94,50,41]⟩,.string ⟨#[50,94,51,94,50]⟩] w fun e w' => e = .returned (.bool true) ∧ Below w.heap.size w w' :=
 law_reads ⟨#[50,94,40,51,94,50,41]⟩ ⟨#[50,94,51,94,50]⟩ _ w (by decide) rd_form5 (by rw [rd_text5]; decide) (by rw [rd_text5]) he
theorem rd_form6 : formS [40,50,94,51,41,94,50] = ([ndNum 20000,ndNum 30000,ndBin 5,ndNum 20000,ndBin 5],0,0):=by kernel_rfl
theorem rd_text6 : showT [ndNum 20000,ndNum 30000,ndBin 5,ndNum 20000,ndBin 5] = [40,50,94,51,41,94,50]:=by kernel_rfl
theorem rd_6 (w : World) (he : WEnv w) : Calls Tryz.prog 50 #[.string ⟨#[40,50,94,51,41,94,50]⟩,.string ⟨#[40,50,94,51,41,94,50]⟩] w fun e w' => e = .returned (.bool true) ∧ Below w.heap.size w w' :=
 law_reads ⟨#[40,50,94,51,41,94,50]⟩ ⟨#[40,50,94,51,41,94,50]⟩ _ w (by decide) rd_form6 (by rw [rd_text6]; decide) (by rw [rd_text6]) he
theorem rd_form7 : formS [40,53,37,41,94,50] = ([ndNum 50000,ndPct,ndNum 20000,ndBin 5],0,0):=by kernel_rfl
theorem rd_text7 : showT [ndNum 50000,ndPct,ndNum 20000,ndBin 5] = [53,37,94,50]:=by kernel_rfl
theorem rd_7 (w : World) (he : WEnv w) : Calls Tryz.prog 50 #[.string ⟨#[40,53,37,41,94,50]⟩,.string ⟨#[53,37,94,50]⟩] w fun e w' => e = .returned (.bool true) ∧ Below w.heap.size w w' :=
 law_reads ⟨#[40,53,37,41,94,50]⟩ ⟨#[53,37,94,50]⟩ _ w (by decide) rd_form7 (by rw [rd_text7]; decide) (by rw [rd_text7]) he
theorem rd_form8 : formS [40,45,53,41,37] = ([ndNum 50000,ndNeg,ndPct],0,0):=by kernel_rfl
theorem rd_text8 : showT [ndNum 50000,ndNeg,ndPct] = [40,45,53,41,37]:=by kernel_rfl
theorem rd_8 (w : World) (he : WEnv w) : Calls Tryz.prog 50 #[.string ⟨#[40,45,53,41,37]⟩,.string ⟨#[40,45,53,41,37]⟩] w fun e w' => e = .returned (.bool true) ∧ Below w.heap.size w w' :=
 law_reads ⟨#[40,45,53,41,37]⟩ ⟨#[40,45,53,41,37]⟩ _ w (by decide) rd_form8 (by rw [rd_text8]; decide) (by rw [rd_text8]) he
theorem rd_form9 : formS [115,117,109,40,97,49,58,98,50,44,34,97,34,41] = ([ndRange ⟨1,1,2,2⟩,(⟨1,3,0,[97],R4.zero,0,0,0⟩ : Nd),(⟨7,0,0,[],R4.zero,0,9,2⟩ : Nd)],0,0):=by kernel_rfl
theorem rd_text9 : showT [ndRange ⟨1,1,2,2⟩,(⟨1,3,0,[97],R4.zero,0,0,0⟩ : Nd),(⟨7,0,0,[],R4.zero,0,9,2⟩ : Nd)] = [83,85,77,40,65,49,58,66,50,44,34,97,34,41]:=by kernel_rfl
theorem rd_9 (w : World) (he : WEnv w) : Calls Tryz.prog 50 #[.string ⟨#[115,117,109,40,97,49,58,98,50,44,34,97,34,41]⟩,.string ⟨#[83,85,77,40,65,49,58,66,50,44,34,97,34,41]⟩] w fun e w' => e = .returned (.bool true) ∧ Below w.heap.size w w' :=
 law_reads ⟨#[115,117,109,40,97,49,58,98,50,44,34,97,34,41]⟩ ⟨#[83,85,77,40,65,49,58,66,50,44,34,97,34,41]⟩ _ w (by decide) rd_form9 (by rw [rd_text9]; decide) (by rw [rd_text9]) he
def awT : List Nd:=[ndRange ⟨1,1,2,2⟩,ndNum 50000,(⟨7,0,0,[],R4.zero,0,9,2⟩ : Nd),ndNum 20000,ndBin 3]
def awL : List (List UInt8):=[[42],[32,32,83,85,77],[32,32,32,32,65,49,58,66,50],[32,32,32,32,53],[32,32,50]]
theorem aw_form : formS [83,85,77,40,65,49,58,66,50,44,53,41,42,50] = (awT,0,0):=by kernel_rfl
theorem aw_lines : (outS awT).map lineO = awL:=by kernel_rfl
theorem aw_ol : olS (awT.map Nd.any) = awL:=by
 obtain ⟨-,hc,-⟩:=form_good aw_form
 rw [olS_ok hc,map_any,aw_lines]
theorem lit_na : litS 4 4 [] = ([35,78,47,65],0):=by
 rw [lit_yes (.inr (.inr (.inr ⟨rfl,by decide,rfl⟩)))]
 kernel_rfl
theorem lit_none : litS 0 0 [] = ([],2):=lit_no (by rintro (⟨h,-⟩ | ⟨h,-⟩ | ⟨h,-⟩ | ⟨h,-⟩) <;> cases h)
theorem strs_blk {w : World} {b : Nat} {t : TypeId} (l : List (List UInt8)) (h : Blk w b t (strsV l).toArray) : RowsAt w (some ⟨b,0,none⟩) 1 (strR l):=by
 intro _
 refine ⟨b,0,rfl,h.lt,fun i r hi j v hj => ?_⟩
 unfold strR at hi
 rw [List.getElem?_map] at hi
 obtain ⟨x,hx,rfl⟩:=Option.map_eq_some_iff.1 hi
 have hj0 : j = 0:=by
  rcases j with - | j
  ·rfl
  ·cases hj
 subst hj0
 simp only [List.getElem?_cons_zero,Option.some.injEq] at hj
 subst hj
 rw [h.cell]
 simp only [List.getElem?_toArray,Nat.zero_add,Nat.mul_one,Nat.add_zero]
 unfold strsV
 rw [List.getElem?_map,hx]
 rfl
theorem law_awake10 (w : World) (he : WEnv w) :
  Calls Tryz.prog 21 #[] w fun e w' => e = .returned (.bool true) ∧ Below w.heap.size w w':=by
 have HE:=keep he
 obtain ⟨-,hck,hsz,-⟩:=form_good aw_form
 have HSZ:=keep hsz
 have HCK:=keep hck
 have HOL:=keep aw_ol
 clear he hck hsz
 go_enter Tryz.func21,Tryz.ntmps21
 go_wp2_with fail
 refine (parse_Formula _ _ (by decide) HE.out.1).mono ?_
 rintro e w1 ⟨v,rfl,hown,hb⟩
 rw [show formS (({ data:=#[83,85,77,40,65,49,58,66,50,44,53,41,42,50] } : ByteArray).data.toList) = _ from aw_form] at hown ⊢
 simp only [] at hown ⊢
 obtain ⟨a,c,rfl⟩:=own_len hown
 obtain ⟨-,hrow⟩:=rows_get hown
 have HR:=keep hrow
 have H1:=Lib.hid ((Ok.start w).below hb)
 clear hown hrow hb
 go_wp2_with fail
 refine (show_Outline (awT.map Nd.any) a c w1 HSZ.out ⟨by rw [any_rows]; exact HR.out,HE.out.below H1.out.bel⟩).mono ?_
 rintro e w2 ⟨v,rfl,hown,hb⟩
 rw [HCK.out]
 rw [HOL.out] at hown
 obtain ⟨a2,c2,rfl,-,hrow⟩:=strs_own hown
 have H2:=Lib.hid (H1.out.below hb)
 have HRL:=keep hrow
 have G2:=Lib.hid (Ok.start w2)
 clear hown hrow hb HR H1
 go_wp2_with fail
 refine (show_Literal 4 4 [] (by decide) (by decide) w2 (HE.out.below H2.out.bel)).mono ?_
 rintro e w3 ⟨rfl,hb⟩
 rw [lit_na]
 have H3:=Lib.hid (H2.out.below hb)
 have G3:=Lib.hid (G2.out.below hb)
 clear H2 G2 hb
 go_wp2_with fail
 refine (show_Literal 0 0 [] (by decide) (by decide) w3 (HE.out.below H3.out.bel)).mono ?_
 rintro e w4 ⟨rfl,hb⟩
 rw [lit_none]
 have H4:=Lib.hid (H3.out.below hb)
 have G4:=Lib.hid (G3.out.below hb)
 clear H3 G3 hb
 go_wp2_with fail
 refine (rd_0 w4 (HE.out.below H4.out.bel)).mono ?_
 rintro e w5 ⟨rfl,hb⟩
 have H5:=Lib.hid (H4.out.below hb)
 have G5:=Lib.hid (G4.out.below hb)
 clear H4 G4 hb
 go_wp2_with fail
 refine (rd_1 w5 (HE.out.below H5.out.bel)).mono ?_
 rintro e w6 ⟨rfl,hb⟩
 have H6:=Lib.hid (H5.out.below hb)
 have G6:=Lib.hid (G5.out.below hb)
 clear H5 G5 hb
 go_wp2_with fail
 refine (rd_2 w6 (HE.out.below H6.out.bel)).mono ?_
 rintro e w7 ⟨rfl,hb⟩
 have H7:=Lib.hid (H6.out.below hb)
 have G7:=Lib.hid (G6.out.below hb)
 clear H6 G6 hb
 go_wp2_with fail
 refine (rd_3 w7 (HE.out.below H7.out.bel)).mono ?_
 rintro e w8 ⟨rfl,hb⟩
 have H8:=Lib.hid (H7.out.below hb)
 have G8:=Lib.hid (G7.out.below hb)
 clear H7 G7 hb
 go_wp2_with fail
 refine (rd_4 w8 (HE.out.below H8.out.bel)).mono ?_
 rintro e w9 ⟨rfl,hb⟩
 have H9:=Lib.hid (H8.out.below hb)
 have G9:=Lib.hid (G8.out.below hb)
 clear H8 G8 hb
 go_wp2_with fail
 refine (rd_5 w9 (HE.out.below H9.out.bel)).mono ?_
 rintro e w10 ⟨rfl,hb⟩
 have H10:=Lib.hid (H9.out.below hb)
 have G10:=Lib.hid (G9.out.below hb)
 clear H9 G9 hb
 go_wp2_with fail
 refine (rd_6 w10 (HE.out.below H10.out.bel)).mono ?_
 rintro e w11 ⟨rfl,hb⟩
 have H11:=Lib.hid (H10.out.below hb)
 have G11:=Lib.hid (G10.out.below hb)
 clear H10 G10 hb
 go_wp2_with fail
 refine (rd_7 w11 (HE.out.below H11.out.bel)).mono ?_
 rintro e w12 ⟨rfl,hb⟩
 have H12:=Lib.hid (H11.out.below hb)
 have G12:=Lib.hid (G11.out.below hb)
 clear H11 G11 hb
 go_wp2_with fail
 refine (rd_8 w12 (HE.out.below H12.out.bel)).mono ?_
 rintro e w13 ⟨rfl,hb⟩
 have H13:=Lib.hid (H12.out.below hb)
 have G13:=Lib.hid (G12.out.below hb)
 clear H12 G12 hb
 go_wp2_with fail
 refine (rd_9 w13 (HE.out.below H13.out.bel)).mono ?_
 rintro e w14 ⟨rfl,hb⟩
 have H14:=Lib.hid (H13.out.below hb)
 have G14:=Lib.hid (G13.out.below hb)
 clear H13 G13 hb
 go_wp2_with fail
 have hblk:=Blk.new w14 9 #[.string ⟨#[42]⟩,.string ⟨#[32,32,83,85,77]⟩,.string ⟨#[32,32,32,32,65,49,58,66,50]⟩,.string ⟨#[32,32,32,32,53]⟩,.string ⟨#[32,32,50]⟩]
 have H15:=Lib.hid (H14.out.alloc_obj (.cells #[.string ⟨#[42]⟩,.string ⟨#[32,32,83,85,77]⟩,.string ⟨#[32,32,32,32,65,49,58,66,50]⟩,.string ⟨#[32,32,32,32,53]⟩,.string ⟨#[32,32,50]⟩] 9))
 have G15:=Lib.hid (G14.out.alloc_obj (.cells #[.string ⟨#[42]⟩,.string ⟨#[32,32,83,85,77]⟩,.string ⟨#[32,32,32,32,65,49,58,66,50]⟩,.string ⟨#[32,32,32,32,53]⟩,.string ⟨#[32,32,50]⟩] 9))
 generalize (w14.alloc (.cells #[.string ⟨#[42]⟩,.string ⟨#[32,32,83,85,77]⟩,.string ⟨#[32,32,32,32,65,49,58,66,50]⟩,.string ⟨#[32,32,32,32,53]⟩,.string ⟨#[32,32,50]⟩] 9)) = W15 at hblk H15 G15 ⊢
 have hr2:=strs_blk awL (show Blk W15 w14.heap.size 9 (strsV awL).toArray from hblk)
 refine (equal_strs awL a2 (some ⟨w14.heap.size,0,none⟩) c2 5 W15 (by decide) (HRL.out.below G15.out.bel) hr2).mono ?_
 rintro e w16 ⟨rfl,hb⟩
 have H16:=Lib.hid (H15.out.below hb)
 clear H15 G15 H14 G14 hb hr2 hblk HRL HOL
 go_wp2_with fail
 go_ret
 exact ⟨rfl,H16.out.bel⟩
end Go.Proofs.YtnbemkiplnanlaaGreatDoor
