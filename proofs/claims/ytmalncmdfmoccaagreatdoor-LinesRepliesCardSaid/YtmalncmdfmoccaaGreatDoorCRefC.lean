/- The contract of lex.Tokens: the walk. Plain facts on the text of a range: what is written is read as the range; what is read is a range. The parser's object: what it holds, and the contracts of its small methods. The contract of the reference lexer's word. Contracts of the reference's error names, operators, and of its lexer's sign. Contracts of the reference lexer's sign and token. The contract of the reference's Tokens. -/
import Derived.Test.YtmalncmdfmoccaaGreatDoorCLexM
import Derived.Laws.EntriesVeiled
import Derived.Test.YtmalncmdfmoccaaGreatDoorCParP
import Derived.Deep.DeepCutAuto
import Derived.Test.YtmalncmdfmoccaaGreatDoorCMem
namespace Go.Proofs.YtmalncmdfmoccaaGreatDoor
open Go.RowKit
def ruleR : Nat → List UInt8 → Nat → Option (Tk × Nat)
  | 0 => numR
  | 1 => txtR
  | 2 => wordR
  | 3 => errR
  | _ => signR
def NoneUpTo (S : List UInt8) (k j : Nat) : Prop:=∀ i,i < j → ruleR i (S.drop k) k = none
theorem NoneUpTo.next {S : List UInt8} {k j : Nat} (h : NoneUpTo S k j) (h1 : ruleR j (S.drop k) k = none) : NoneUpTo S k (j + 1):=by
  intro i hi
  rcases Nat.lt_succ_iff_lt_or_eq.1 hi with hi | rfl
  · exact h i hi
  · exact h1
end Go.Proofs.YtmalncmdfmoccaaGreatDoor
namespace Go.Proofs.YtmalncmdfmoccaaGreatDoor
open Go.RowKit
theorem let_58 (b : UInt8) (h : isLet b = true) : b ≠ 58:=by
  rintro rfl
  exact absurd h (by decide)
theorem dig_58 (b : UInt8) (h : isDig b = true) : b ≠ 58:=by
  rintro rfl
  exact absurd h (by decide)
theorem format_58 (c r : Int) : ∀ b ∈ (formatS c r).1,b ≠ 58:=by
  intro b hb
  cases hv : validN c r
  · rw [formatS_bad c r hv] at hb; simp at hb
  · rw [formatS_good c r hv] at hb
    rcases List.mem_append.1 hb with h | h
    · exact let_58 b (letters_let _ b h)
    · exact dig_58 b (List.all_eq_true.1 (dec_dig _) b h)
theorem cut_fmt1 (l : List UInt8) (h : ∀ b ∈ l,b ≠ 58) : Lib.cut l [58] = (l,[],false):=cut_none l fun _ _ => h _ (List.getElem_mem _)
theorem cut_fmt2 (l k : List UInt8) (h : ∀ b ∈ l,b ≠ 58) : Lib.cut (l ++ 58 :: k) [58] = (l,k,true):=by
  have:=cut_colon (l ++ 58 :: k) l.length (by simp) (fun j hj => by rw [List.getElem_append_left hj]; exact h _ (List.getElem_mem _)) (by simp)
  rw [this]
  simp
theorem parse_fmt (r : R4) (h : checkB r = true) : parseR (fmtL r) = (r,0):=by
  obtain ⟨a1,a2,a3,a4⟩:=r
  obtain ⟨h1,h2⟩:=check_valid h
  have hc:=(checkB_iff _).1 h
  simp only [] at hc
  have p1:=parse_format a1 a2 h1
  have p2:=parse_format a3 a4 h2
  unfold parseR fromS toS
  by_cases he : a1 = a3 ∧ a2 = a4
  · rw [fmtL_one _ he,cut_fmt1 _ (format_58 _ _)]
    obtain ⟨rfl,rfl⟩:=he
    simp only [Bool.false_eq_true,if_false]
    rw [p1]
    simp [parseAB]
  · rw [(fmtL_two _ h he).1,cut_fmt2 _ _ (format_58 _ _)]
    simp only [if_true]
    rw [p1,p2]
    simp [parseAB]
    omega
end Go.Proofs.YtmalncmdfmoccaaGreatDoor
namespace Go.Proofs.YtmalncmdfmoccaaGreatDoor
open Go.RowKit
def ndRow (n : Nd) : List Value:=[.int .u8 n.kind,.int .u8 n.vk,.int .i64 n.vn,.string ⟨n.vt.toArray⟩,.int .i64 n.r.c1,.int .i64 n.r.r1,.int .i64 n.r.c2,.int .i64 n.r.r2,.int .i64 n.op,.int .u8 n.fn,.int .i64 (n.n : Nat)]
def ndCells (l : List Nd) : List Value:=l.flatMap ndRow
structure TokAt (w : World) (a : Option Addr) (c : Nat) (ts : List Tk) : Prop where
  le : ts.length ≤ c
  cap : c ≤ 9223372036854775807
  at_ : ts ≠ [] → ∃ b o,a = some ⟨b,o,none⟩ ∧ b < w.heap.size ∧ ∀ i t,ts[i]? = some t → ∀ j v,(tkRow t)[j]? = some v → w.cell? ⟨b,o + (i * 8 + j),none⟩ = some v
theorem TokAt.last (w : World) (a : Option Addr) : TokAt w a 0 []:=⟨Nat.le_refl _,Nat.zero_le _,fun h => absurd rfl h⟩
theorem TokAt.next {w : World} {b o c : Nat} {t : Tk} {ts : List Tk} (h : TokAt w (some ⟨b,o,none⟩) c (t :: ts)) : TokAt w (some ⟨b,o + 8,none⟩) (c - 1) ts:=by
  refine ⟨by have:=h.le; simp at this; omega,by have:=h.cap; omega,fun _ => ?_⟩
  obtain ⟨b',o',e,hb,hc⟩:=h.at_ (by simp)
  simp at e
  obtain ⟨rfl,rfl⟩:=e
  refine ⟨b,o + 8,rfl,hb,fun i u hi j v hj => ?_⟩
  have:=hc (i + 1) u (by simpa using hi) j v hj
  rw [show o + 8 + (i * 8 + j) = o + ((i + 1) * 8 + j) by omega]
  exact this
theorem OkRow.set_ {w0 w : World} {ps : List Pers} {e : TypeId} {size n b i : Nat} {t : TypeId} {cs xs : List Value} {u v : Value} (h : OkRow w0 (kVar b t cs :: ps) e size v n xs w) (hb : w0.heap.size ≤ b) (hf : ∀ x ∈ ps,x.far (some b)) :
    OkRow w0 (kVar b t (cs.set i u) :: ps) e size v n xs (w.setCell ⟨b,i,none⟩ u):=by
  have hne : some b ≠ v.ownBlock:=h.far _ (List.mem_cons_self ..)
  refine ⟨h.ok.set_ hb hf,h.own.kept (only_set b i u) ?_,fun x hx => ?_⟩
  · cases hv : v.ownBlock with
    | none => exact .inl rfl
    | some k =>
      right
      intro e9
      exact hne (by rw [hv]; exact e9.symm)
  · rcases List.mem_cons.1 hx with rfl | hx
    · exact hne
    · exact h.far x (List.mem_cons_of_mem _ hx)
def St (w1 : World) (ps : List Pers) (pb en : Nat) (ts : List Tk) (ns : List Nd) (w : World) : Prop :=
  w1.heap.size ≤ pb ∧ (∀ x ∈ ps,x.far (some pb)) ∧ ∃ la c ov,TokAt w1 la c ts ∧ OkRow w1 (kVar pb 274 [.slice la ts.length c,.int .i64 (en : Int),ov] :: ps) 310 11 ov ns.length (ndCells ns) w
section
variable {w1 w w' : World} {ps : List Pers} {pb en : Nat} {ts : List Tk} {ns : List Nd}
theorem St.below (h : St w1 ps pb en ts ns w) (hb : Below w.heap.size w w') : St w1 ps pb en ts ns w':=by
  obtain ⟨h1,h2,la,c,ov,h3,h4⟩:=h
  exact ⟨h1,h2,la,c,ov,h3,h4.below hb⟩
theorem OkRow.swap {w0 : World} {x y : Pers} {ps : List Pers} {e : TypeId} {size n : Nat} {v : Value} {xs : List Value} (h : OkRow w0 (x :: y :: ps) e size v n xs w) : OkRow w0 (y :: x :: ps) e size v n xs w :=
  h.drop _ (by intro z hz; simp at hz ⊢; rcases hz with h | h | h <;> simp [h])
theorem St.alloc (h : St w1 ps pb en ts ns w) (t : TypeId) (cs : List Value) : St w1 (kBlk w.heap.size t cs :: ps) pb en ts ns (w.alloc (.cells cs.toArray t)):=by
  obtain ⟨h1,h2,la,c,ov,h3,h4⟩:=h
  have hlt : pb < w.heap.size:=by
    have:=h4.ok.sees
    exact this.1.1.1
  refine ⟨h1,fun x hx => ?_,la,c,ov,h3,(h4.alloc w.heap.size t cs rfl).swap⟩
  rcases List.mem_cons.1 hx with rfl | hx
  · show some w.heap.size ≠ some pb
    simp; omega
  · exact h2 x hx
theorem St.alloc_obj (h : St w1 ps pb en ts ns w) (o : Obj) : St w1 ps pb en ts ns (w.alloc o):=h.below ((Below.refl _ _).alloc (Nat.le_refl _) _)
theorem St.tail {x : Pers} (h : St w1 (x :: ps) pb en ts ns w) : St w1 ps pb en ts ns w:=by
  obtain ⟨h1,h2,la,c,ov,h3,h4⟩:=h
  exact ⟨h1,fun y hy => h2 y (List.mem_cons_of_mem _ hy),la,c,ov,h3,h4.drop _ (by intro z hz; simp at hz ⊢; rcases hz with h | h <;> simp [h])⟩
theorem St.drop (h : St w1 ps pb en ts ns w) (qs : List Pers) (hq : ∀ x ∈ qs,x ∈ ps) : St w1 qs pb en ts ns w:=by
  obtain ⟨h1,h2,la,c,ov,h3,h4⟩:=h
  exact ⟨h1,fun y hy => h2 y (hq y hy),la,c,ov,h3,h4.drop _ (by intro z hz; simp at hz ⊢; rcases hz with h | h; exact .inl h; exact .inr (hq _ h))⟩
theorem St.sees (h : St w1 ps pb en ts ns w) : pb < w.heap.size ∧ Go.Proofs.YtmalncmdfmoccaaGreatDoor.sees ps w:=by
  obtain ⟨h1,h2,la,c,ov,h3,h4⟩:=h
  have:=h4.ok.sees
  exact ⟨this.1.1.1,this.2⟩
theorem St.bel (h : St w1 ps pb en ts ns w) : Below w1.heap.size w1 w:=by
  obtain ⟨h1,h2,la,c,ov,h3,h4⟩:=h
  exact h4.ok.bel
theorem St.lt (h : St w1 ps pb en ts ns w) : pb < w.heap.size:=h.sees.1
end
end Go.Proofs.YtmalncmdfmoccaaGreatDoor
namespace Go.Proofs.YtmalncmdfmoccaaGreatDoor
section
open Go.RowKit
end
section
open Go.RowKit
def errT (c : Int) : List UInt8:=if 1 ≤ c ∧ c ≤ 7 then allNames[c.toNat]?.getD [] else []
theorem ref5_Fail7 (w : World) :
    Calls Tryz.prog 33 #[.int .i64 7] w fun e w' => e = .returned (.agg #[.int .u8 4,.int .i64 7,.string ⟨#[]⟩]) ∧ Below w.heap.size w w':=by
  go_enter Tryz.func33,Tryz.ntmps33
  have H0:=Lib.hid (Ok.start w)
  go_upto_region 1 with fail
  have H1:=Lib.hid (H0.out.var w.heap.size 59 [.int .u8 0,.int .i64 0,.string ⟨#[]⟩] rfl)
  clear H0
  generalize (w.alloc (.cells #[.int .u8 0,.int .i64 0,.string ⟨#[]⟩] 59)) = W2 at H1 ⊢
  have F3:=H1.out.sees
  simp only [sees,kVar,cellsAt,Nat.reduceAdd] at F3
  obtain ⟨⟨⟨z0,fz0⟩,c0_0,c0_1,c0_2,-⟩,-⟩:=F3
  go_wp2_with fail
  have hK:=H1.out.get (kVar (w.heap.size) 59 [.int .u8 0,.int .i64 0,.string ⟨#[]⟩]) (by simp)
  have hB:=H1.out.bel
  have hE:=((((show Blk W2 (w.heap.size) 59 _ from hK).set_ 0 (.int .u8 4)).set_ 1 (.int .i64 7)).set_ 2 (.string ⟨#[]⟩))
  have r0:=hE.cell 0
  have r1:=hE.cell 1
  have r2:=hE.cell 2
  simp at r0 r1 r2
  exact bodyPost_ret (v:=.agg #[.int .u8 4,.int .i64 7,.string ⟨#[]⟩]) (by simp [results,Tryz.results33,go_sem,r0,r1,r2]) rfl ⟨rfl,(((hB.setCell (by simp) _).setCell (by simp) _).setCell (by simp) _)⟩
theorem ref5_Name (c : Int) (w : World) :
    Calls Tryz.prog 107 #[.int .i64 c] w fun e w' => e = .returned (.string ⟨(errT c).toArray⟩) ∧ w' = w:=by
  rcases (show c = 1 ∨ c = 2 ∨ c = 3 ∨ c = 4 ∨ c = 5 ∨ c = 6 ∨ c = 7 ∨ ¬ (1 ≤ c ∧ c ≤ 7) by omega) with rfl | rfl | rfl | rfl | rfl | rfl | rfl | h
  iterate 7
    · go_enter Tryz.func107,Tryz.ntmps107
      go_wp2_with fail
      go_ret
      exact ⟨rfl,rfl⟩
  · have HE:=keep (show errT c = [] from if_neg h)
    have h1 : (c == 1) = false:=by simp; omega
    have h2 : (c == 2) = false:=by simp; omega
    have h3 : (c == 3) = false:=by simp; omega
    have h4 : (c == 4) = false:=by simp; omega
    have h5 : (c == 5) = false:=by simp; omega
    have h6 : (c == 6) = false:=by simp; omega
    have h7 : (c == 7) = false:=by simp; omega
    clear h
    go_enter Tryz.func107,Tryz.ntmps107
    go_wp2_with fail
    go_ret
    exact ⟨by rw [HE.out]; rfl,rfl⟩
set_option maxRecDepth 100000 in
theorem ref5_CheckE (c : Int) (w : World) :
    Calls Tryz.prog 32 #[.agg #[.int .u8 4,.int .i64 c,.string ⟨#[]⟩]] w fun e w' => e = .returned (.int .i64 (if 1 ≤ c ∧ c ≤ 6 then 0 else 2)) ∧ Below w.heap.size w w':=by
  have hb:=(Below.refl w.heap.size w).alloc (Nat.le_refl _) (.cells #[.int .u8 4,.int .i64 c,.string ⟨#[]⟩] 59)
  have HB:=Lib.hid hb
  clear hb
  by_cases h1 : 1 ≤ c
  · by_cases h6 : c ≤ 6
    · have HE:=keep (show (if 1 ≤ c ∧ c ≤ 6 then (0 : Int) else 2) = 0 from if_pos ⟨h1,h6⟩)
      rw [HE.out]
      go_enter Tryz.func32,Tryz.ntmps32
      go_wp2_with fail
      go_ret
      exact ⟨rfl,HB.out⟩
    · have HE:=keep (show (if 1 ≤ c ∧ c ≤ 6 then (0 : Int) else 2) = 2 from if_neg (fun h => h6 h.2))
      rw [HE.out]
      go_enter Tryz.func32,Tryz.ntmps32
      go_wp2_with fail
      go_ret
      exact ⟨rfl,HB.out⟩
  · have HE:=keep (show (if 1 ≤ c ∧ c ≤ 6 then (0 : Int) else 2) = 2 from if_neg (fun h => h1 h.1))
    rw [HE.out]
    go_enter Tryz.func32,Tryz.ntmps32
    go_wp2_with fail
    go_ret
    exact ⟨rfl,HB.out⟩
set_option maxRecDepth 100000 in
set_option maxHeartbeats 2000000 in
theorem ref5_Show (c : Int) (w : World) :
    Calls Tryz.prog 65 #[.agg #[.int .u8 4,.int .i64 c,.string ⟨#[]⟩]] w fun e w' => e = .returned (.string ⟨(errT c).toArray⟩) ∧ Below w.heap.size w w':=by
  by_cases h7 : c = 7
  · subst h7
    have H1:=Lib.hid ((Ok.start w).alloc w.heap.size 59 [.int .u8 4,.int .i64 7,.string ⟨#[]⟩] rfl)
    go_enter Tryz.func65,Tryz.ntmps65
    go_wp2_with fail
    generalize (w.alloc (.cells #[.int .u8 4,.int .i64 7,.string ⟨#[]⟩] 59)) = W2 at H1 ⊢
    refine wp_region_held_drew (S:=fun W => Ok w [kBlk (w.heap.size) 59 [.int .u8 4,.int .i64 7,.string ⟨#[]⟩]] W) (by kernel_rfl) H1.out.drew (fun hHeld => ?_)
    refine wpAnyH_take (i:=0) (v:=?vx1_0) rfl (by kernel_rfl) (by kernel_rfl) (by kernel_rfl) (fun _ _ _ h => h) (Or.inl ⟨by rfl,?hyx1_0⟩) (by assumption) ?restx1_0
    case hyx1_0 => (intro w hSw; have F:=Ok.sees hSw; clear hSw; simp only [sees,kBlk,cellsAt,Nat.reduceAdd] at F; go_simp; try with_reducible rfl)
    try simp only [Act.put,List.setIfInBounds_toArray,List.set_cons_zero,List.set_cons_succ,List.getElem_toArray,List.getElem_cons_zero]
    refine wpAnyH_ready (rs:=[1]) (by kernel_rfl) (by simp) ?_
    refine AllReadyH.cons rfl (fun K hK => ?_) AllReadyH.nil
    go_simp
    refine (ref5_Fail7 _).mono ?_
    rintro e w4 ⟨rfl,hb5⟩
    go_wp2_with fail
    refine hK.out _ _ (hHeld.below hb5) (fun hHeld => ?_)
    clear hK K
    try simp only [Act.put,List.setIfInBounds_toArray,List.set_cons_zero,List.set_cons_succ,List.getElem_toArray,List.getElem_cons_succ,List.getElem_cons_zero]
    refine wpAnyH_take (i:=2) (v:=?vx2_2) rfl (by kernel_rfl) (by kernel_rfl) (by kernel_rfl) (fun _ _ _ h => h) (Or.inl ⟨by rfl,?hyx2_2⟩) (by assumption) ?restx2_2
    case hyx2_2 => (intro w hSw; have F:=Ok.sees hSw; clear hSw; simp only [sees,kBlk,cellsAt,Nat.reduceAdd] at F; go_simp; try with_reducible rfl)
    try simp only [Act.put,List.setIfInBounds_toArray,List.set_cons_zero,List.set_cons_succ,List.getElem_toArray,List.getElem_cons_succ,List.getElem_cons_zero]
    refine wpAnyH_done (by kernel_rfl) ?_ _
    clear H1
    have H6:=Lib.hid hHeld
    clear hHeld
    have F7:=H6.out.sees
    simp only [sees,kBlk,cellsAt,Nat.reduceAdd] at F7
    obtain ⟨⟨z0,c0_0,c0_1,c0_2,-⟩,-⟩:=F7
    go_wp2_with fail
    refine (ref5_Name 7 _).mono ?_
    rintro e wz9 ⟨rfl,hw9⟩
    obtain rfl : w4 = wz9:=hw9.symm
    go_wp2_with fail
    go_ret
    exact ⟨rfl,H6.out.bel⟩
  · have h7b : (c == 7) = false:=by simpa using h7
    have H7:=keep h7
    clear h7
    by_cases h16 : 1 ≤ c ∧ c ≤ 6
    · have HC:=keep (show (if 1 ≤ c ∧ c ≤ 6 then (0 : Int) else 2) = 0 from if_pos h16)
      clear h16
      have H1:=Lib.hid ((Ok.start w).alloc w.heap.size 59 [.int .u8 4,.int .i64 c,.string ⟨#[]⟩] rfl)
      go_enter Tryz.func65,Tryz.ntmps65
      go_wp2_with fail
      generalize (w.alloc (.cells #[.int .u8 4,.int .i64 c,.string ⟨#[]⟩] 59)) = W2 at H1 ⊢
      refine wp_region_held_drew (S:=fun W => Ok w [kBlk (w.heap.size) 59 [.int .u8 4,.int .i64 c,.string ⟨#[]⟩]] W) (by kernel_rfl) H1.out.drew (fun hHeld => ?_)
      refine wpAnyH_take (i:=0) (v:=?vx3_0) rfl (by kernel_rfl) (by kernel_rfl) (by kernel_rfl) (fun _ _ _ h => h) (Or.inl ⟨by rfl,?hyx3_0⟩) (by assumption) ?restx3_0
      case hyx3_0 => (intro w hSw; have F:=Ok.sees hSw; clear hSw; simp only [sees,kBlk,cellsAt,Nat.reduceAdd] at F; go_simp; try with_reducible rfl)
      try simp only [Act.put,List.setIfInBounds_toArray,List.set_cons_zero,List.set_cons_succ,List.getElem_toArray,List.getElem_cons_zero]
      refine wpAnyH_ready (rs:=[1]) (by kernel_rfl) (by simp) ?_
      refine AllReadyH.cons rfl (fun K hK => ?_) AllReadyH.nil
      go_simp
      refine (ref5_Fail7 _).mono ?_
      rintro e w4 ⟨rfl,hb5⟩
      go_wp2_with fail
      refine hK.out _ _ (hHeld.below hb5) (fun hHeld => ?_)
      clear hK K
      try simp only [Act.put,List.setIfInBounds_toArray,List.set_cons_zero,List.set_cons_succ,List.getElem_toArray,List.getElem_cons_succ,List.getElem_cons_zero]
      refine wpAnyH_take (i:=2) (v:=?vx4_2) rfl (by kernel_rfl) (by kernel_rfl) (by kernel_rfl) (fun _ _ _ h => h) (Or.inl ⟨by rfl,?hyx4_2⟩) (by assumption) ?restx4_2
      case hyx4_2 => (intro w hSw; have F:=Ok.sees hSw; clear hSw; simp only [sees,kBlk,cellsAt,Nat.reduceAdd] at F; go_simp; try with_reducible rfl)
      try simp only [Act.put,List.setIfInBounds_toArray,List.set_cons_zero,List.set_cons_succ,List.getElem_toArray,List.getElem_cons_succ,List.getElem_cons_zero]
      refine wpAnyH_done (by kernel_rfl) ?_ _
      clear H1
      have H6:=Lib.hid hHeld
      clear hHeld
      have F7:=H6.out.sees
      simp only [sees,kBlk,cellsAt,Nat.reduceAdd] at F7
      obtain ⟨⟨z0,c0_0,c0_1,c0_2,-⟩,-⟩:=F7
      go_wp2_with fail
      refine (ref5_CheckE c _).mono ?_
      rintro e w8 ⟨rfl,hb9⟩
      rw [HC.out]
      clear z0 c0_0 c0_1 c0_2
      have H10:=Lib.hid (H6.out.below hb9)
      clear hb9 H6
      have F11:=H10.out.sees
      simp only [sees,kBlk,cellsAt,Nat.reduceAdd] at F11
      obtain ⟨⟨z0,c0_0,c0_1,c0_2,-⟩,-⟩:=F11
      go_wp2_with fail
      refine (ref5_Name c _).mono ?_
      rintro e wz9 ⟨rfl,hw9⟩
      obtain rfl : w8 = wz9:=hw9.symm
      go_wp2_with fail
      go_ret
      exact ⟨rfl,H10.out.bel⟩
    · have HC:=keep (show (if 1 ≤ c ∧ c ≤ 6 then (0 : Int) else 2) = 2 from if_neg h16)
      have HE:=keep (show errT c = [] from if_neg (by have:=H7.out; omega))
      clear h16
      have H1:=Lib.hid ((Ok.start w).alloc w.heap.size 59 [.int .u8 4,.int .i64 c,.string ⟨#[]⟩] rfl)
      go_enter Tryz.func65,Tryz.ntmps65
      go_wp2_with fail
      generalize (w.alloc (.cells #[.int .u8 4,.int .i64 c,.string ⟨#[]⟩] 59)) = W2 at H1 ⊢
      refine wp_region_held_drew (S:=fun W => Ok w [kBlk (w.heap.size) 59 [.int .u8 4,.int .i64 c,.string ⟨#[]⟩]] W) (by kernel_rfl) H1.out.drew (fun hHeld => ?_)
      refine wpAnyH_take (i:=0) (v:=?vx5_0) rfl (by kernel_rfl) (by kernel_rfl) (by kernel_rfl) (fun _ _ _ h => h) (Or.inl ⟨by rfl,?hyx5_0⟩) (by assumption) ?restx5_0
      case hyx5_0 => (intro w hSw; have F:=Ok.sees hSw; clear hSw; simp only [sees,kBlk,cellsAt,Nat.reduceAdd] at F; go_simp; try with_reducible rfl)
      try simp only [Act.put,List.setIfInBounds_toArray,List.set_cons_zero,List.set_cons_succ,List.getElem_toArray,List.getElem_cons_zero]
      refine wpAnyH_ready (rs:=[1]) (by kernel_rfl) (by simp) ?_
      refine AllReadyH.cons rfl (fun K hK => ?_) AllReadyH.nil
      go_simp
      refine (ref5_Fail7 _).mono ?_
      rintro e w4 ⟨rfl,hb5⟩
      go_wp2_with fail
      refine hK.out _ _ (hHeld.below hb5) (fun hHeld => ?_)
      clear hK K
      try simp only [Act.put,List.setIfInBounds_toArray,List.set_cons_zero,List.set_cons_succ,List.getElem_toArray,List.getElem_cons_succ,List.getElem_cons_zero]
      refine wpAnyH_take (i:=2) (v:=?vx6_2) rfl (by kernel_rfl) (by kernel_rfl) (by kernel_rfl) (fun _ _ _ h => h) (Or.inl ⟨by rfl,?hyx6_2⟩) (by assumption) ?restx6_2
      case hyx6_2 => (intro w hSw; have F:=Ok.sees hSw; clear hSw; simp only [sees,kBlk,cellsAt,Nat.reduceAdd] at F; go_simp; try with_reducible rfl)
      try simp only [Act.put,List.setIfInBounds_toArray,List.set_cons_zero,List.set_cons_succ,List.getElem_toArray,List.getElem_cons_succ,List.getElem_cons_zero]
      refine wpAnyH_done (by kernel_rfl) ?_ _
      clear H1
      have H6:=Lib.hid hHeld
      clear hHeld
      have F7:=H6.out.sees
      simp only [sees,kBlk,cellsAt,Nat.reduceAdd] at F7
      obtain ⟨⟨z0,c0_0,c0_1,c0_2,-⟩,-⟩:=F7
      go_wp2_with fail
      refine (ref5_CheckE c _).mono ?_
      rintro e w8 ⟨rfl,hb9⟩
      rw [HC.out]
      clear z0 c0_0 c0_1 c0_2
      have H10:=Lib.hid (H6.out.below hb9)
      clear hb9 H6
      have F11:=H10.out.sees
      simp only [sees,kBlk,cellsAt,Nat.reduceAdd] at F11
      obtain ⟨⟨z0,c0_0,c0_1,c0_2,-⟩,-⟩:=F11
      go_wp2_with fail
      go_ret
      exact ⟨by rw [HE.out]; rfl,H10.out.bel⟩
end
section
open Go.RowKit
end
section
open Go.RowKit
end
end Go.Proofs.YtmalncmdfmoccaaGreatDoor
