/- The contract of group.Format: the canonical text of the set. Condition: the library's table of TrailingZeros64. -/
import Derived.Test.YtmalncmdfmoccaaGreatDoorCLexO
import Derived.Test.YtmalncmdfmoccaaGreatDoorCGrpR
import Derived.Test.YtmalncmdfmoccaaGreatDoorCMem
import Derived.Test.YtmalncmdfmoccaaGreatDoorCGrpQ
import Derived.Deep.AppendLies
namespace Go.Proofs.YtmalncmdfmoccaaGreatDoor
open Go.RowKit
attribute [local go_sem] Oper.semAt_some
theorem dec_dig2 (i : Nat) (h : i < 64) : Lib.decDigits i = dig2 i:=by
  have key : ∀ i : Fin 64,Lib.decDigits i.1 = dig2 i.1:=by decide +kernel
  exact key ⟨i,h⟩
def stepF (s : Nat) (p : Nat × List (List UInt8)) (x : Nat) : Nat × List (List UInt8) :=
  if p.1 ≤ x then (if lastS s x < x + 2 then p.1 else lastS s x + 1,p.2 ++ [wordF x (lastS s x)]) else p
def wordsL (s : Nat) (l : List Int) : Nat × List (List UInt8):=l.foldl (fun p x => stepF s p x.toNat) (0,[])
theorem wordsL_nil (s : Nat) : wordsL s [] = (0,[]):=rfl
theorem wordsL_snoc (s : Nat) (l : List Int) (x : Int) : wordsL s (l ++ [x]) = stepF s (wordsL s l) x.toNat:=by simp [wordsL,List.foldl_append]
theorem wordsL_bits (s k : Nat) : wordsL s (bitsN s k) = wordsF s k:=by
  induction k with
  | zero => rfl
  | succ k ih =>
    rw [bitsN,wordsF]
    cases hb : s.testBit k
    · simp [ih]
    · simp only [if_true,true_and]
      rw [wordsL_snoc,ih,Int.toNat_natCast,stepF]
theorem mem_bitsN (s k : Nat) (x : Int) (h : x ∈ bitsN s k) : ∃ i : Nat,x = i ∧ i < k:=by
  induction k with
  | zero => cases h
  | succ k ih =>
    rw [bitsN] at h
    rcases List.mem_append.1 h with h | h
    · obtain ⟨i,hi,hk⟩:=ih h
      exact ⟨i,hi,by omega⟩
    · split at h
      · rw [List.mem_singleton] at h
        exact ⟨k,h,by omega⟩
      · cases h
def Writes (s : Nat) (w : World) (pre : List Int) (W : World) : Prop :=
  ∃ v,Boxed W (w.heap.size + 1) 63 v ∧ W.ownsRow w.heap.size 9 1 v (wordsL s pre).2.length (strsV (wordsL s pre).2) ∧ Boxed W w.heap.size 50 (.int .u64 s) ∧
    Boxed W (w.heap.size + 2) 3 (.int .i64 ((wordsL s pre).1 : Nat)) ∧ Below w.heap.size w W ∧ ∃ u,Boxed W (w.heap.size + 3) 50 u
section
variable {s : Nat} {w W : World} {pre : List Int}
theorem Writes.of {nx : Nat} {ws : List (List UInt8)} {v u : Value} (h : wordsL s pre = (nx,ws)) (hv : Boxed W (w.heap.size + 1) 63 v) (hrow : W.ownsRow w.heap.size 9 1 v ws.length (strsV ws)) (hS : Boxed W w.heap.size 50 (.int .u64 s))
    (hN : Boxed W (w.heap.size + 2) 3 (.int .i64 (nx : Nat))) (hB : Below w.heap.size w W) (hu : Boxed W (w.heap.size + 3) 50 u) : Writes s w pre W:=⟨v,hv,by rw [h]; exact hrow,hS,by rw [h]; exact hN,hB,u,hu⟩
theorem Writes.below (h : Writes s w pre W) : Below w.heap.size w W:=by
  obtain ⟨_,_,_,_,_,hb,_⟩:=h
  exact hb
theorem Writes.put (h : Writes s w pre W) {l : Nat} {ob : Obj} (ob' : Obj) (hw : w.heap.size + 3 < l) (hl : W.heap[l]? = some ob) (hc : ob.isCells = false) : Writes s w pre (W.putObj l ob'):=by
  obtain ⟨v,hv,hr,h1,h2,hb,u,hu⟩:=h
  exact ⟨v,(World.putObj_heap_other (by omega)).trans hv,ownsRow_putObj hr ob' hl hc,(World.putObj_heap_other (by omega)).trans h1,(World.putObj_heap_other (by omega)).trans h2,⟨hb.os,hb.tape,hb.output,by simpa using hb.size,fun i hi => (World.putObj_heap_other (by omega)).trans (hb.block i hi)⟩,u,(World.putObj_heap_other (by omega)).trans hu⟩
theorem Writes.alloc (h : Writes s w pre W) (ob : Obj) : Writes s w pre (W.alloc ob):=by
  obtain ⟨v,hv,hr,h1,h2,hb,u,hu⟩:=h
  exact ⟨v,hv.alloc ob,hr.alloc ob,h1.alloc ob,h2.alloc ob,hb.alloc hb.size ob,u,hu.alloc ob⟩
theorem Writes.set_ (h : Writes s w pre W) (x : Value) : Writes s w pre (W.setCell ⟨w.heap.size + 3,0,none⟩ x):=by
  obtain ⟨v,hv,hr,h1,h2,hb,u,hu⟩:=h
  exact ⟨v,hv.other (by omega) x,hr.kept (grownBy_setCell' W (w.heap.size + 3) x) (.inr (hu.not_row (by decide) hr).symm),h1.other (by omega) x,h2.other (by omega) x,hb.setCell (p:=⟨w.heap.size + 3,0,none⟩) (by simp) x,x,hu.set x⟩
theorem Writes.drew (h : Writes s w pre W) : Writes s w pre W.drew:=by
  obtain ⟨v,hv,hr,h1,h2,hb,u,hu⟩:=h
  exact ⟨v,hv,hr,h1,h2,hb.drew,u,hu⟩
end
theorem wordsL_len (s : Nat) (l : List Int) : (wordsL s l).2.length ≤ l.length:=by
  have key : ∀ (l : List Int) (p : Nat × List (List UInt8)),(l.foldl (fun p x => stepF s p x.toNat) p).2.length ≤ p.2.length + l.length:=by
    intro l
    induction l with
    | nil => intro p; exact Nat.le_refl _
    | cons x l ih =>
      intro p
      have h1:=ih (stepF s p x.toNat)
      have h2 : (stepF s p x.toNat).2.length ≤ p.2.length + 1:=by
        unfold stepF
        split
        · simp
        · omega
      simp only [List.foldl_cons,List.length_cons]
      omega
  have:=key l (0,[])
  simpa [wordsL] using this
theorem stepF_skip (s x : Nat) (p : Nat × List (List UInt8)) (h : x < p.1) : stepF s p x = p:=by unfold stepF; rw [if_neg (by omega)]
theorem stepF_one (s x v : Nat) (p : Nat × List (List UInt8)) (h : p.1 ≤ x) (hl : lastS s x = v) (h2 : v < x + 2) : stepF s p x = (p.1,p.2 ++ [dig2 x]):=by
  unfold stepF; rw [if_pos h,hl,if_pos h2,wordF,if_pos h2]
theorem stepF_run (s x v : Nat) (p : Nat × List (List UInt8)) (h : p.1 ≤ x) (hl : lastS s x = v) (h2 : ¬ v < x + 2) : stepF s p x = (v + 1,p.2 ++ [dig2 x ++ 45 :: dig2 v]):=by
  unfold stepF; rw [if_pos h,hl,if_neg h2,wordF,if_neg h2]
theorem row_drew {w : World} {b e s n : Nat} {v : Value} {xs : List Value} (h : w.ownsRow b e s v n xs) : w.drew.ownsRow b e s v n xs:=h
theorem grown_undrew {a b : World} {row : Option Nat} (h : a.drew.grownBy b row) : a.grownBy b row:=⟨h.os,h.tape,h.output,h.size,h.block⟩
theorem byt_run' (a b : List UInt8) : byt (a ++ 45 :: b) = byt a ++ ⟨#[45]⟩ ++ byt b:=by
  rw [byt_45,byt_app,byt_app]; simp
theorem info_str : (Tryz.prog.info? 9).map (fun i => (i.zero,i.size,i.bytes)) = some (some (.string ⟨#[]⟩),1,16):=by kernel_rfl
attribute [local irreducible] wordsF textW gfmtL byt lastS dig2 wordsL stepF wordF bitsL bitsN
set_option maxRecDepth 100000 in
set_option maxHeartbeats 8000000 in
theorem group_format_mid (s : Nat) (w : World) (hs : s < 18446744073709551616) (h0 : s ≠ 0) (h1 : s ≠ 18446744073709551615) (hT : Bru w) :
    Calls Tryz.prog 59 #[.int .u64 s] w fun e w' => e = .returned (.string (byt (textW s 64))) ∧ Below w.heap.size w w':=by
  have q0 : ((s : Int) == 0) = false:=by simp; omega
  have q1 : ((s : Int) == 18446744073709551615) = false:=by simp; omega
  clear h0 h1
  have HS:=keep hs
  obtain ⟨i0,hi,hz0,hz1,hz2⟩:=info_parts info_str
  refine (callsIn_wide (n:=6)).1 ?_
  refine callsIn_of_wp_marks Tryz.func59 rfl trivial ?_ rfl
  simp only [Tryz.ntmps59,List.size_toArray,List.length_cons,List.length_nil,Nat.reduceAdd,Nat.reduceSub,Array.replicate_succ,Array.replicate_zero,List.push_toArray,List.append_toArray,List.nil_append,List.cons_append]
  gi_wp2_with fail
  refine ⟨trivial,((callsIn_wide (n:=5)).2 (group_members s _)).mono ?_⟩
  rintro e w' ⟨rfl,rfl⟩
  gi_wp2_with fail
  have bS:=Boxed.new w 50 (.int .u64 s)
  have bW:=Boxed.new (w.alloc (.cells #[.int .u64 s] 50)) 63 (.slice none 0 0)
  rw [World.size_alloc] at bW
  have bN:=Boxed.new ((w.alloc (.cells #[.int .u64 s] 50)).alloc (.cells #[.slice none 0 0] 63)) 3 (.int .i64 0)
  rw [World.size_alloc,World.size_alloc] at bN
  have bI:=Boxed.new (((w.alloc (.cells #[.int .u64 s] 50)).alloc (.cells #[.slice none 0 0] 63)).alloc (.cells #[.int .i64 0] 3)) 50 (.int .u64 s)
  rw [World.size_alloc,World.size_alloc,World.size_alloc] at bI
  have hB0 : Below w.heap.size w ((((w.alloc (.cells #[.int .u64 s] 50)).alloc (.cells #[.slice none 0 0] 63)).alloc (.cells #[.int .i64 0] 3)).alloc (.cells #[.int .u64 s] 50)):=((((Below.refl _ w).alloc (Nat.le_refl _) _).alloc (by simp) _).alloc (by simp; omega) _).alloc (by simp; omega) _
  have hlt:=bru_lt hT
  have hlen:=bitsN_len s 64
  refine range_hands rfl (by decide) (gf:=149) (lb:=#[.pointer (some ⟨w.heap.size + 3,0,none⟩)]) rfl trivial (enters_of Tryz.func149 (by kernel_rfl) rfl)
    (bitsL s) rfl (w.heap.size + 3) (by simp) (members_hands 5 (by decide) (w.heap.size + 3) s _ hs bI)
    (Writes s w) ?put (fun _ _ ob h => h.alloc ob) (fun _ _ v h => h.set_ v) (fun _ _ h => h.drew) (fun _ _ h => hT.below h.below hlt)
    ⟨.slice none 0 0,(bW.alloc _).alloc _,by rw [wordsL_nil]; exact World.ownsRow_nil _ _ _ _,((bS.alloc _).alloc _).alloc _,by rw [wordsL_nil]; exact bN.alloc _,hB0,_,bI⟩
    (fun x => { tmps:=#[.int .u64 s,.pointer (some ⟨w.heap.size,0,none⟩),.string ⟨#[]⟩,.pointer (some ⟨w.heap.size + 1,0,none⟩),.pointer (some ⟨w.heap.size + 2,0,none⟩),.int .i64 x,undef,.int .u64 s,.bool false,.bool false,.bool false,.bool false,.int .u64 s,.func (.func 149) #[] #[.pointer (some ⟨w.heap.size + 3,0,none⟩)],.int .i64 x,undef,undef,undef,undef,undef,undef,undef,undef,undef,undef,undef,undef,undef,undef,undef,undef,undef,undef,undef,undef,undef,undef,undef,undef,undef,undef,undef,undef,undef,undef,undef,undef],defers:=[] }) ?assign ?body ?done
  case put =>
    intro pre W l ob ob' h hl hlo hc
    simp at hl
    exact h.put ob' (by omega) hlo hc
  case assign =>
    intro l x W K hK
    gi_wp2
    exact hK
  case body =>
    intro l pre x W hl hW ho hpx
    obtain ⟨i,rfl,hi64⟩:=mem_bitsN s 64 x (by have h9:=hpx.subset (show x ∈ pre ++ [x] by simp); unfold bitsL at h9; exact h9)
    have hpl : (wordsL s pre).2.length ≤ 64:=by
      have h1:=hpx.length_le
      have h2 : (bitsL s).length ≤ 64:=by unfold bitsL; exact hlen
      have h3:=wordsL_len s pre
      simp at h1
      omega
    obtain ⟨v,hv,hrow,hS,hN,hB,u,hu⟩:=hW
    have hst:=keep (show wordsL s (pre ++ [(i : Int)]) = stepF s (wordsL s pre) i by rw [wordsL_snoc,Int.toNat_natCast])
    have HP:=keep (show True from trivial)
    generalize hp : wordsL s pre = p at hrow hN hpl hst
    obtain ⟨nx,ws⟩:=p
    simp only at hrow hN hpl
    by_cases hlt2 : i < nx
    · have hskip:=keep (stepF_skip s i (nx,ws) hlt2)
      have cN:=hN.cell
      have lN:=hN.lt
      have hlt3 : (i : Int) < nx:=by omega
      gi_wp2
      exact ⟨KeepsFrom.refl _ _,Writes.of (hst.out.trans hskip.out) hv hrow hS hN hB hu,rfl⟩
    · have cN:=hN.cell
      have lN:=hN.lt
      have cS:=hS.cell
      have lS:=hS.lt
      have hge : (nx : Int) ≤ i:=by omega
      have hnl : ¬ (i : Int) < nx:=by omega
      gi_wp2_with fail
      gi_loopw [6] (fun lv wr => ∃ v : Nat,i ≤ v ∧ v < 64 ∧ lv = .int .i64 v ∧ wr = W ∧ Keep (∀ j,i < j → j ≤ v → s.testBit j = true)) (fun lv _ => 64 - (intOf lv).toNat)
      case atStart => exact ⟨i,Nat.le_refl _,by omega,rfl,rfl,keep (fun j h1 h2 => by omega)⟩
      case round =>
        obtain ⟨last,hil,hl64,rfl,rfl,HV⟩:=hrel
        gi_wp2_with fail
        refine ⟨trivial,CallsIn.inRound l (((callsIn_wide (n:=3)).2 (has_any s (last + 1) _ (by omega) (by omega))).mono ?_)⟩
        rintro e w' ⟨rfl,rfl⟩
        have hh : hasB s ((last : Int) + 1) = s.testBit (last + 1):=by
          by_cases c : last + 1 < 64
          · simp [hasB]; intro; omega
          · rw [over_bit s (last + 1) HS.out (by omega)]; simp [hasB]; intro; omega
        rw [Int.toNat_natCast,hh]
        clear hh
        cases hb : s.testBit (last + 1)
        · have H2:=keep hb
          clear hb
          have HV2:=keep (lastS_of s i last HS.out ⟨hil,HV.out,H2.out⟩)
          have cW:=hv.cell
          have lW:=hv.lt
          obtain ⟨D,hD,hDl⟩ : ∃ D,byt (dig2 i) = D ∧ D.size ≤ 2:=⟨_,rfl,by rw [byt_size]; exact dig2_len i⟩
          have HD:=keep hD
          obtain ⟨E,hE,hEl⟩ : ∃ E,byt (dig2 last) = E ∧ E.size ≤ 2:=⟨_,rfl,by rw [byt_size]; exact dig2_len last⟩
          have HE:=keep hE
          clear hD hE
          by_cases hl : (last : Int) < i + 2
          · have hone:=keep (stepF_one s i last (nx,ws) (by show nx ≤ i; omega) HV2.out (by omega))
            gi_wp2_with fail
            refine wpIn_region_plain (by kernel_rfl) (by kernel_rfl) ?_
            refine wpAny_take (i:=1) (v:=?vy1) rfl (by kernel_rfl) (by kernel_rfl) (by kernel_rfl) (fun _ _ _ h => h) (Or.inl ⟨by rfl,?hy1⟩) ?ry1
            case hy1 => (intro w; go_simp; (try rw [if_neg (by omega)]); (try with_reducible rfl))
            try simp only [Act.put,List.setIfInBounds_toArray,List.set_cons_zero,List.set_cons_succ,List.getElem_toArray,List.getElem_cons_succ,List.getElem_cons_zero]
            refine wpAny_ready (rs:=[0,2]) (by kernel_rfl) (by simp) ?_
            refine (AllReady.cons rfl (fun K hK => ?_) (AllReady.cons rfl (fun K hK => ?_) AllReady.nil))
            · go_simp
              refine hK _ _ ?_
              clear hK K
              try simp only [Act.put,List.setIfInBounds_toArray,List.set_cons_zero,List.set_cons_succ,List.getElem_toArray,List.getElem_cons_succ,List.getElem_cons_zero]
              refine wpAny_ready (rs:=[2]) (by kernel_rfl) (by simp) ?_
              refine (AllReady.cons rfl (fun K hK => ?_) AllReady.nil)
              · go_simp
                refine (Tryz.strconv_Itoa_small i (by omega) _).mono ?_
                rintro e w' ⟨rfl,rfl⟩
                rw [dec_dig2 i (by omega),byt_eq,HD.out]
                go_wp2_with fail
                try simp only [Act.put,List.setIfInBounds_toArray,List.set_cons_zero,List.set_cons_succ,List.getElem_toArray,List.getElem_cons_succ,List.getElem_cons_zero]
                refine wpAny_ready (rs:=[3]) (by kernel_rfl) (by simp) ?_
                refine (AllReady.cons rfl (fun K hK => ?_) AllReady.nil)
                · go_simp
                  refine hK _ _ ?_
                  clear hK K
                  try simp only [Act.put,List.setIfInBounds_toArray,List.set_cons_zero,List.set_cons_succ,List.getElem_toArray,List.getElem_cons_succ,List.getElem_cons_zero]
                  refine wpAny_ready (rs:=[4]) (by kernel_rfl) (by simp) ?_
                  refine (AllReady.cons rfl (fun K hK => ?_) AllReady.nil)
                  · refine step_append_lies _ (by rfl) _ _ _ (by rfl) w.heap.size 9 i0 _ 1 16 Tryz.underlying63 hi hz0 hz1 hz2 rfl (by omega) _ _ _ (by rfl) (row_drew (hrow.alloc _)) ⟨wr.heap.size,0,none⟩ 1 1 [.string (D)] (by rfl) (by rfl) (World.news_of_block (cs:=#[.string (D)]) (t:=9) (fr:=(0,0)) (heap_alloc_new wr _)) (by simp [Value.oneCell']) (by omega) (by unfold maxLen; omega) (by omega) (by have:=hB.size; simp; omega) (wr.heap.size + 1) (by simp) ?_
                    intro g' cap' w1 hown' hgrow hat hlt'
                    obtain ⟨hv1,hv2,hr2,hk2,hb2⟩:=hv.appended (tmp:=.cells #[.string (D)] 9) (by decide) hrow hB.size (Nat.le_succ _) hown' (grown_undrew hgrow)
                    have hc1:=hv1.cell
                    have hf1:=hv1.frozen
                    have lw1:=hv1.lt
                    refine hK _ _ ?_
                    clear hK K
                    try simp only [Act.put,List.setIfInBounds_toArray,List.set_cons_zero,List.set_cons_succ,List.getElem_toArray,List.getElem_cons_succ,List.getElem_cons_zero]
                    refine wpAny_ready (rs:=[5]) (by kernel_rfl) (by simp) ?_
                    refine (AllReady.cons rfl (fun K hK => ?_) AllReady.nil)
                    · go_simp
                      refine hK _ _ ?_
                      clear hK K
                      try simp only [Act.put,List.setIfInBounds_toArray,List.set_cons_zero,List.set_cons_succ,List.getElem_toArray,List.getElem_cons_succ,List.getElem_cons_zero]
                      refine wpAny_done (by kernel_rfl) ?_ _
                      simp only [OnlyN,Exit.then]
                      have eS:=((hS.alloc (.cells #[.string D] 9)).kept (grown_undrew hgrow) (hS.not_row (by decide : 50 ≠ 9) hrow)).other (by omega : w.heap.size ≠ w.heap.size + 1) (.slice (some ⟨g',0,none⟩) (ws.length + 1) cap')
                      have eN:=((hN.alloc (.cells #[.string D] 9)).kept (grown_undrew hgrow) (hN.not_row (by decide : 3 ≠ 9) hrow)).other (by omega : w.heap.size + 2 ≠ w.heap.size + 1) (.slice (some ⟨g',0,none⟩) (ws.length + 1) cap')
                      have eU:=((hu.alloc (.cells #[.string D] 9)).kept (grown_undrew hgrow) (hu.not_row (by decide : 50 ≠ 9) hrow)).other (by omega : w.heap.size + 3 ≠ w.heap.size + 1) (.slice (some ⟨g',0,none⟩) (ws.length + 1) cap')
                      gi_wp2_with fail
                      exact ⟨hk2.from _,Writes.of (hst.out.trans hone.out) hv2 (by rw [strsV_snoc,List.length_append,HD.out]; exact hr2) eS eN (hB.trans hb2) eU,eU.trans hu.symm⟩
            · go_simp
              refine (Tryz.strconv_Itoa_small i (by omega) _).mono ?_
              rintro e w' ⟨rfl,rfl⟩
              rw [dec_dig2 i (by omega),byt_eq,HD.out]
              go_wp2_with fail
              try simp only [Act.put,List.setIfInBounds_toArray,List.set_cons_zero,List.set_cons_succ,List.getElem_toArray,List.getElem_cons_succ,List.getElem_cons_zero]
              refine wpAny_ready (rs:=[0,3]) (by kernel_rfl) (by simp) ?_
              refine (AllReady.cons rfl (fun K hK => ?_) (AllReady.cons rfl (fun K hK => ?_) AllReady.nil))
              · go_simp
                refine hK _ _ ?_
                clear hK K
                try simp only [Act.put,List.setIfInBounds_toArray,List.set_cons_zero,List.set_cons_succ,List.getElem_toArray,List.getElem_cons_succ,List.getElem_cons_zero]
                refine wpAny_ready (rs:=[3]) (by kernel_rfl) (by simp) ?_
                refine (AllReady.cons rfl (fun K hK => ?_) AllReady.nil)
                · go_simp
                  refine hK _ _ ?_
                  clear hK K
                  try simp only [Act.put,List.setIfInBounds_toArray,List.set_cons_zero,List.set_cons_succ,List.getElem_toArray,List.getElem_cons_succ,List.getElem_cons_zero]
                  refine wpAny_ready (rs:=[4]) (by kernel_rfl) (by simp) ?_
                  refine (AllReady.cons rfl (fun K hK => ?_) AllReady.nil)
                  · refine step_append_lies _ (by rfl) _ _ _ (by rfl) w.heap.size 9 i0 _ 1 16 Tryz.underlying63 hi hz0 hz1 hz2 rfl (by omega) _ _ _ (by rfl) (row_drew (hrow.alloc _)) ⟨wr.heap.size,0,none⟩ 1 1 [.string (D)] (by rfl) (by rfl) (World.news_of_block (cs:=#[.string (D)]) (t:=9) (fr:=(0,0)) (heap_alloc_new wr _)) (by simp [Value.oneCell']) (by omega) (by unfold maxLen; omega) (by omega) (by have:=hB.size; simp; omega) (wr.heap.size + 1) (by simp) ?_
                    intro g' cap' w1 hown' hgrow hat hlt'
                    obtain ⟨hv1,hv2,hr2,hk2,hb2⟩:=hv.appended (tmp:=.cells #[.string (D)] 9) (by decide) hrow hB.size (Nat.le_succ _) hown' (grown_undrew hgrow)
                    have hc1:=hv1.cell
                    have hf1:=hv1.frozen
                    have lw1:=hv1.lt
                    refine hK _ _ ?_
                    clear hK K
                    try simp only [Act.put,List.setIfInBounds_toArray,List.set_cons_zero,List.set_cons_succ,List.getElem_toArray,List.getElem_cons_succ,List.getElem_cons_zero]
                    refine wpAny_ready (rs:=[5]) (by kernel_rfl) (by simp) ?_
                    refine (AllReady.cons rfl (fun K hK => ?_) AllReady.nil)
                    · go_simp
                      refine hK _ _ ?_
                      clear hK K
                      try simp only [Act.put,List.setIfInBounds_toArray,List.set_cons_zero,List.set_cons_succ,List.getElem_toArray,List.getElem_cons_succ,List.getElem_cons_zero]
                      refine wpAny_done (by kernel_rfl) ?_ _
                      simp only [OnlyN,Exit.then]
                      have eS:=((hS.alloc (.cells #[.string D] 9)).kept (grown_undrew hgrow) (hS.not_row (by decide : 50 ≠ 9) hrow)).other (by omega : w.heap.size ≠ w.heap.size + 1) (.slice (some ⟨g',0,none⟩) (ws.length + 1) cap')
                      have eN:=((hN.alloc (.cells #[.string D] 9)).kept (grown_undrew hgrow) (hN.not_row (by decide : 3 ≠ 9) hrow)).other (by omega : w.heap.size + 2 ≠ w.heap.size + 1) (.slice (some ⟨g',0,none⟩) (ws.length + 1) cap')
                      have eU:=((hu.alloc (.cells #[.string D] 9)).kept (grown_undrew hgrow) (hu.not_row (by decide : 50 ≠ 9) hrow)).other (by omega : w.heap.size + 3 ≠ w.heap.size + 1) (.slice (some ⟨g',0,none⟩) (ws.length + 1) cap')
                      gi_wp2_with fail
                      exact ⟨hk2.from _,Writes.of (hst.out.trans hone.out) hv2 (by rw [strsV_snoc,List.length_append,HD.out]; exact hr2) eS eN (hB.trans hb2) eU,eU.trans hu.symm⟩
              · go_simp
                refine hK _ _ ?_
                clear hK K
                try simp only [Act.put,List.setIfInBounds_toArray,List.set_cons_zero,List.set_cons_succ,List.getElem_toArray,List.getElem_cons_succ,List.getElem_cons_zero]
                refine wpAny_ready (rs:=[0]) (by kernel_rfl) (by simp) ?_
                refine (AllReady.cons rfl (fun K hK => ?_) AllReady.nil)
                · go_simp
                  refine hK _ _ ?_
                  clear hK K
                  try simp only [Act.put,List.setIfInBounds_toArray,List.set_cons_zero,List.set_cons_succ,List.getElem_toArray,List.getElem_cons_succ,List.getElem_cons_zero]
                  refine wpAny_ready (rs:=[4]) (by kernel_rfl) (by simp) ?_
                  refine (AllReady.cons rfl (fun K hK => ?_) AllReady.nil)
                  · refine step_append_lies _ (by rfl) _ _ _ (by rfl) w.heap.size 9 i0 _ 1 16 Tryz.underlying63 hi hz0 hz1 hz2 rfl (by omega) _ _ _ (by rfl) (row_drew (hrow.alloc _)) ⟨wr.heap.size,0,none⟩ 1 1 [.string (D)] (by rfl) (by rfl) (World.news_of_block (cs:=#[.string (D)]) (t:=9) (fr:=(0,0)) (heap_alloc_new wr _)) (by simp [Value.oneCell']) (by omega) (by unfold maxLen; omega) (by omega) (by have:=hB.size; simp; omega) (wr.heap.size + 1) (by simp) ?_
                    intro g' cap' w1 hown' hgrow hat hlt'
                    obtain ⟨hv1,hv2,hr2,hk2,hb2⟩:=hv.appended (tmp:=.cells #[.string (D)] 9) (by decide) hrow hB.size (Nat.le_succ _) hown' (grown_undrew hgrow)
                    have hc1:=hv1.cell
                    have hf1:=hv1.frozen
                    have lw1:=hv1.lt
                    refine hK _ _ ?_
                    clear hK K
                    try simp only [Act.put,List.setIfInBounds_toArray,List.set_cons_zero,List.set_cons_succ,List.getElem_toArray,List.getElem_cons_succ,List.getElem_cons_zero]
                    refine wpAny_ready (rs:=[5]) (by kernel_rfl) (by simp) ?_
                    refine (AllReady.cons rfl (fun K hK => ?_) AllReady.nil)
                    · go_simp
                      refine hK _ _ ?_
                      clear hK K
                      try simp only [Act.put,List.setIfInBounds_toArray,List.set_cons_zero,List.set_cons_succ,List.getElem_toArray,List.getElem_cons_succ,List.getElem_cons_zero]
                      refine wpAny_done (by kernel_rfl) ?_ _
                      simp only [OnlyN,Exit.then]
                      have eS:=((hS.alloc (.cells #[.string D] 9)).kept (grown_undrew hgrow) (hS.not_row (by decide : 50 ≠ 9) hrow)).other (by omega : w.heap.size ≠ w.heap.size + 1) (.slice (some ⟨g',0,none⟩) (ws.length + 1) cap')
                      have eN:=((hN.alloc (.cells #[.string D] 9)).kept (grown_undrew hgrow) (hN.not_row (by decide : 3 ≠ 9) hrow)).other (by omega : w.heap.size + 2 ≠ w.heap.size + 1) (.slice (some ⟨g',0,none⟩) (ws.length + 1) cap')
                      have eU:=((hu.alloc (.cells #[.string D] 9)).kept (grown_undrew hgrow) (hu.not_row (by decide : 50 ≠ 9) hrow)).other (by omega : w.heap.size + 3 ≠ w.heap.size + 1) (.slice (some ⟨g',0,none⟩) (ws.length + 1) cap')
                      gi_wp2_with fail
                      exact ⟨hk2.from _,Writes.of (hst.out.trans hone.out) hv2 (by rw [strsV_snoc,List.length_append,HD.out]; exact hr2) eS eN (hB.trans hb2) eU,eU.trans hu.symm⟩
          · have hrun:=keep (stepF_run s i last (nx,ws) (by show nx ≤ i; omega) HV2.out (by omega))
            gi_wp2_with fail
            refine wpIn_region_plain (by kernel_rfl) (by kernel_rfl) ?_
            refine wpAny_take (i:=1) (v:=?vy2) rfl (by kernel_rfl) (by kernel_rfl) (by kernel_rfl) (fun _ _ _ h => h) (Or.inl ⟨by rfl,?hy2⟩) ?ry2
            case hy2 => (intro w; go_simp; (try rw [if_neg (by omega)]); (try with_reducible rfl))
            try simp only [Act.put,List.setIfInBounds_toArray,List.set_cons_zero,List.set_cons_succ,List.getElem_toArray,List.getElem_cons_succ,List.getElem_cons_zero]
            refine wpAny_take (i:=4) (v:=?vy3) rfl (by kernel_rfl) (by kernel_rfl) (by kernel_rfl) (fun _ _ _ h => h) (Or.inl ⟨by rfl,?hy3⟩) ?ry3
            case hy3 => (intro w; go_simp; (try rw [if_neg (by omega)]); (try with_reducible rfl))
            try simp only [Act.put,List.setIfInBounds_toArray,List.set_cons_zero,List.set_cons_succ,List.getElem_toArray,List.getElem_cons_succ,List.getElem_cons_zero]
            refine wpAny_ready (rs:=[0,2]) (by kernel_rfl) (by simp) ?_
            refine (AllReady.cons rfl (fun K hK => ?_) (AllReady.cons rfl (fun K hK => ?_) AllReady.nil))
            · go_simp
              refine hK _ _ ?_
              clear hK K
              try simp only [Act.put,List.setIfInBounds_toArray,List.set_cons_zero,List.set_cons_succ,List.getElem_toArray,List.getElem_cons_succ,List.getElem_cons_zero]
              refine wpAny_ready (rs:=[2]) (by kernel_rfl) (by simp) ?_
              refine (AllReady.cons rfl (fun K hK => ?_) AllReady.nil)
              · go_simp
                refine (Tryz.strconv_Itoa_small i (by omega) _).mono ?_
                rintro e w' ⟨rfl,rfl⟩
                rw [dec_dig2 i (by omega),byt_eq,HD.out]
                go_wp2_with fail
                try simp only [Act.put,List.setIfInBounds_toArray,List.set_cons_zero,List.set_cons_succ,List.getElem_toArray,List.getElem_cons_succ,List.getElem_cons_zero]
                refine wpAny_take (i:=3) (v:=?vy4) rfl (by kernel_rfl) (by kernel_rfl) (by kernel_rfl) (fun _ _ _ h => h) (Or.inl ⟨by rfl,?hy4⟩) ?ry4
                case hy4 => (intro w; go_simp; (try rw [if_neg (by omega)]); (try with_reducible rfl))
                try simp only [Act.put,List.setIfInBounds_toArray,List.set_cons_zero,List.set_cons_succ,List.getElem_toArray,List.getElem_cons_succ,List.getElem_cons_zero]
                refine wpAny_ready (rs:=[5]) (by kernel_rfl) (by simp) ?_
                refine (AllReady.cons rfl (fun K hK => ?_) AllReady.nil)
                · go_simp
                  refine (Tryz.strconv_Itoa_small last (by omega) _).mono ?_
                  rintro e w' ⟨rfl,rfl⟩
                  rw [dec_dig2 last (by omega),byt_eq,HE.out]
                  go_wp2_with fail
                  try simp only [Act.put,List.setIfInBounds_toArray,List.set_cons_zero,List.set_cons_succ,List.getElem_toArray,List.getElem_cons_succ,List.getElem_cons_zero]
                  refine wpAny_take (i:=6) (v:=?vy5) rfl (by kernel_rfl) (by kernel_rfl) (by kernel_rfl) (fun _ _ _ h => h) (Or.inl ⟨by rfl,?hy5⟩) ?ry5
                  case hy5 => (intro w; go_simp; (try rw [if_neg (by omega)]); (try with_reducible rfl))
                  try simp only [Act.put,List.setIfInBounds_toArray,List.set_cons_zero,List.set_cons_succ,List.getElem_toArray,List.getElem_cons_succ,List.getElem_cons_zero]
                  refine wpAny_ready (rs:=[7]) (by kernel_rfl) (by simp) ?_
                  refine (AllReady.cons rfl (fun K hK => ?_) AllReady.nil)
                  · go_simp
                    refine hK _ _ ?_
                    clear hK K
                    try simp only [Act.put,List.setIfInBounds_toArray,List.set_cons_zero,List.set_cons_succ,List.getElem_toArray,List.getElem_cons_succ,List.getElem_cons_zero]
                    refine wpAny_ready (rs:=[8]) (by kernel_rfl) (by simp) ?_
                    refine (AllReady.cons rfl (fun K hK => ?_) AllReady.nil)
                    · refine step_append_lies _ (by rfl) _ _ _ (by rfl) w.heap.size 9 i0 _ 1 16 Tryz.underlying63 hi hz0 hz1 hz2 rfl (by omega) _ _ _ (by rfl) (row_drew (hrow.alloc _)) ⟨wr.heap.size,0,none⟩ 1 1 [.string (D ++ ⟨#[45]⟩ ++ E)] (by rfl) (by rfl) (World.news_of_block (cs:=#[.string (D ++ ⟨#[45]⟩ ++ E)]) (t:=9) (fr:=(0,0)) (heap_alloc_new wr _)) (by simp [Value.oneCell']) (by omega) (by unfold maxLen; omega) (by omega) (by have:=hB.size; simp; omega) (wr.heap.size + 1) (by simp) ?_
                      intro g' cap' w1 hown' hgrow hat hlt'
                      obtain ⟨hv1,hv2,hr2,hk2,hb2⟩:=hv.appended (tmp:=.cells #[.string (D ++ ⟨#[45]⟩ ++ E)] 9) (by decide) hrow hB.size (Nat.le_succ _) hown' (grown_undrew hgrow)
                      have hc1:=hv1.cell
                      have hf1:=hv1.frozen
                      have lw1:=hv1.lt
                      refine hK _ _ ?_
                      clear hK K
                      try simp only [Act.put,List.setIfInBounds_toArray,List.set_cons_zero,List.set_cons_succ,List.getElem_toArray,List.getElem_cons_succ,List.getElem_cons_zero]
                      refine wpAny_ready (rs:=[9]) (by kernel_rfl) (by simp) ?_
                      refine (AllReady.cons rfl (fun K hK => ?_) AllReady.nil)
                      · go_simp
                        refine hK _ _ ?_
                        clear hK K
                        try simp only [Act.put,List.setIfInBounds_toArray,List.set_cons_zero,List.set_cons_succ,List.getElem_toArray,List.getElem_cons_succ,List.getElem_cons_zero]
                        refine wpAny_done (by kernel_rfl) ?_ _
                        simp only [OnlyN,Exit.then]
                        have eS:=((hS.alloc (.cells #[.string (D ++ ⟨#[45]⟩ ++ E)] 9)).kept (grown_undrew hgrow) (hS.not_row (by decide : 50 ≠ 9) hrow)).other (by omega : w.heap.size ≠ w.heap.size + 1) (.slice (some ⟨g',0,none⟩) (ws.length + 1) cap')
                        have eN:=((hN.alloc (.cells #[.string (D ++ ⟨#[45]⟩ ++ E)] 9)).kept (grown_undrew hgrow) (hN.not_row (by decide : 3 ≠ 9) hrow)).other (by omega : w.heap.size + 2 ≠ w.heap.size + 1) (.slice (some ⟨g',0,none⟩) (ws.length + 1) cap')
                        have eU:=((hu.alloc (.cells #[.string (D ++ ⟨#[45]⟩ ++ E)] 9)).kept (grown_undrew hgrow) (hu.not_row (by decide : 50 ≠ 9) hrow)).other (by omega : w.heap.size + 3 ≠ w.heap.size + 1) (.slice (some ⟨g',0,none⟩) (ws.length + 1) cap')
                        have cN2:=eN.cell
                        have fN2:=eN.frozen
                        have lN2:=eN.lt
                        gi_wp2_with fail
                        have hnum : (Value.int .i64 ((last : Int) + 1)) = .int .i64 ((last + 1 : Nat) : Int):=by go_num
                        rw [hnum]
                        exact ⟨(hk2.trans (KeepsOthers.setCell _ _ _)).from _,Writes.of (hst.out.trans hrun.out) (hv2.other (by omega) _) (by rw [strsV_snoc,List.length_append,byt_run',HD.out,HE.out]; exact hr2.kept (grownBy_setCell' _ _ _) (.inr (eN.not_row (by decide : 3 ≠ 9) hr2).symm)) (eS.other (by omega) _) (eN.set _) ((hB.trans hb2).setCell (p:=⟨w.heap.size + 2,0,none⟩) (by simp) _) (eU.other (by omega) _),(eU.other (by omega) _).trans hu.symm⟩
            · go_simp
              refine (Tryz.strconv_Itoa_small i (by omega) _).mono ?_
              rintro e w' ⟨rfl,rfl⟩
              rw [dec_dig2 i (by omega),byt_eq,HD.out]
              go_wp2_with fail
              try simp only [Act.put,List.setIfInBounds_toArray,List.set_cons_zero,List.set_cons_succ,List.getElem_toArray,List.getElem_cons_succ,List.getElem_cons_zero]
              refine wpAny_take (i:=3) (v:=?vy6) rfl (by kernel_rfl) (by kernel_rfl) (by kernel_rfl) (fun _ _ _ h => h) (Or.inl ⟨by rfl,?hy6⟩) ?ry6
              case hy6 => (intro w; go_simp; (try rw [if_neg (by omega)]); (try with_reducible rfl))
              try simp only [Act.put,List.setIfInBounds_toArray,List.set_cons_zero,List.set_cons_succ,List.getElem_toArray,List.getElem_cons_succ,List.getElem_cons_zero]
              refine wpAny_ready (rs:=[0,5]) (by kernel_rfl) (by simp) ?_
              refine (AllReady.cons rfl (fun K hK => ?_) (AllReady.cons rfl (fun K hK => ?_) AllReady.nil))
              · go_simp
                refine hK _ _ ?_
                clear hK K
                try simp only [Act.put,List.setIfInBounds_toArray,List.set_cons_zero,List.set_cons_succ,List.getElem_toArray,List.getElem_cons_succ,List.getElem_cons_zero]
                refine wpAny_ready (rs:=[5]) (by kernel_rfl) (by simp) ?_
                refine (AllReady.cons rfl (fun K hK => ?_) AllReady.nil)
                · go_simp
                  refine (Tryz.strconv_Itoa_small last (by omega) _).mono ?_
                  rintro e w' ⟨rfl,rfl⟩
                  rw [dec_dig2 last (by omega),byt_eq,HE.out]
                  go_wp2_with fail
                  try simp only [Act.put,List.setIfInBounds_toArray,List.set_cons_zero,List.set_cons_succ,List.getElem_toArray,List.getElem_cons_succ,List.getElem_cons_zero]
                  refine wpAny_take (i:=6) (v:=?vy7) rfl (by kernel_rfl) (by kernel_rfl) (by kernel_rfl) (fun _ _ _ h => h) (Or.inl ⟨by rfl,?hy7⟩) ?ry7
                  case hy7 => (intro w; go_simp; (try rw [if_neg (by omega)]); (try with_reducible rfl))
                  try simp only [Act.put,List.setIfInBounds_toArray,List.set_cons_zero,List.set_cons_succ,List.getElem_toArray,List.getElem_cons_succ,List.getElem_cons_zero]
                  refine wpAny_ready (rs:=[7]) (by kernel_rfl) (by simp) ?_
                  refine (AllReady.cons rfl (fun K hK => ?_) AllReady.nil)
                  · go_simp
                    refine hK _ _ ?_
                    clear hK K
                    try simp only [Act.put,List.setIfInBounds_toArray,List.set_cons_zero,List.set_cons_succ,List.getElem_toArray,List.getElem_cons_succ,List.getElem_cons_zero]
                    refine wpAny_ready (rs:=[8]) (by kernel_rfl) (by simp) ?_
                    refine (AllReady.cons rfl (fun K hK => ?_) AllReady.nil)
                    · refine step_append_lies _ (by rfl) _ _ _ (by rfl) w.heap.size 9 i0 _ 1 16 Tryz.underlying63 hi hz0 hz1 hz2 rfl (by omega) _ _ _ (by rfl) (row_drew (hrow.alloc _)) ⟨wr.heap.size,0,none⟩ 1 1 [.string (D ++ ⟨#[45]⟩ ++ E)] (by rfl) (by rfl) (World.news_of_block (cs:=#[.string (D ++ ⟨#[45]⟩ ++ E)]) (t:=9) (fr:=(0,0)) (heap_alloc_new wr _)) (by simp [Value.oneCell']) (by omega) (by unfold maxLen; omega) (by omega) (by have:=hB.size; simp; omega) (wr.heap.size + 1) (by simp) ?_
                      intro g' cap' w1 hown' hgrow hat hlt'
                      obtain ⟨hv1,hv2,hr2,hk2,hb2⟩:=hv.appended (tmp:=.cells #[.string (D ++ ⟨#[45]⟩ ++ E)] 9) (by decide) hrow hB.size (Nat.le_succ _) hown' (grown_undrew hgrow)
                      have hc1:=hv1.cell
                      have hf1:=hv1.frozen
                      have lw1:=hv1.lt
                      refine hK _ _ ?_
                      clear hK K
                      try simp only [Act.put,List.setIfInBounds_toArray,List.set_cons_zero,List.set_cons_succ,List.getElem_toArray,List.getElem_cons_succ,List.getElem_cons_zero]
                      refine wpAny_ready (rs:=[9]) (by kernel_rfl) (by simp) ?_
                      refine (AllReady.cons rfl (fun K hK => ?_) AllReady.nil)
                      · go_simp
                        refine hK _ _ ?_
                        clear hK K
                        try simp only [Act.put,List.setIfInBounds_toArray,List.set_cons_zero,List.set_cons_succ,List.getElem_toArray,List.getElem_cons_succ,List.getElem_cons_zero]
                        refine wpAny_done (by kernel_rfl) ?_ _
                        simp only [OnlyN,Exit.then]
                        have eS:=((hS.alloc (.cells #[.string (D ++ ⟨#[45]⟩ ++ E)] 9)).kept (grown_undrew hgrow) (hS.not_row (by decide : 50 ≠ 9) hrow)).other (by omega : w.heap.size ≠ w.heap.size + 1) (.slice (some ⟨g',0,none⟩) (ws.length + 1) cap')
                        have eN:=((hN.alloc (.cells #[.string (D ++ ⟨#[45]⟩ ++ E)] 9)).kept (grown_undrew hgrow) (hN.not_row (by decide : 3 ≠ 9) hrow)).other (by omega : w.heap.size + 2 ≠ w.heap.size + 1) (.slice (some ⟨g',0,none⟩) (ws.length + 1) cap')
                        have eU:=((hu.alloc (.cells #[.string (D ++ ⟨#[45]⟩ ++ E)] 9)).kept (grown_undrew hgrow) (hu.not_row (by decide : 50 ≠ 9) hrow)).other (by omega : w.heap.size + 3 ≠ w.heap.size + 1) (.slice (some ⟨g',0,none⟩) (ws.length + 1) cap')
                        have cN2:=eN.cell
                        have fN2:=eN.frozen
                        have lN2:=eN.lt
                        gi_wp2_with fail
                        have hnum : (Value.int .i64 ((last : Int) + 1)) = .int .i64 ((last + 1 : Nat) : Int):=by go_num
                        rw [hnum]
                        exact ⟨(hk2.trans (KeepsOthers.setCell _ _ _)).from _,Writes.of (hst.out.trans hrun.out) (hv2.other (by omega) _) (by rw [strsV_snoc,List.length_append,byt_run',HD.out,HE.out]; exact hr2.kept (grownBy_setCell' _ _ _) (.inr (eN.not_row (by decide : 3 ≠ 9) hr2).symm)) (eS.other (by omega) _) (eN.set _) ((hB.trans hb2).setCell (p:=⟨w.heap.size + 2,0,none⟩) (by simp) _) (eU.other (by omega) _),(eU.other (by omega) _).trans hu.symm⟩
              · go_simp
                refine (Tryz.strconv_Itoa_small last (by omega) _).mono ?_
                rintro e w' ⟨rfl,rfl⟩
                rw [dec_dig2 last (by omega),byt_eq,HE.out]
                go_wp2_with fail
                try simp only [Act.put,List.setIfInBounds_toArray,List.set_cons_zero,List.set_cons_succ,List.getElem_toArray,List.getElem_cons_succ,List.getElem_cons_zero]
                refine wpAny_take (i:=6) (v:=?vy8) rfl (by kernel_rfl) (by kernel_rfl) (by kernel_rfl) (fun _ _ _ h => h) (Or.inl ⟨by rfl,?hy8⟩) ?ry8
                case hy8 => (intro w; go_simp; (try rw [if_neg (by omega)]); (try with_reducible rfl))
                try simp only [Act.put,List.setIfInBounds_toArray,List.set_cons_zero,List.set_cons_succ,List.getElem_toArray,List.getElem_cons_succ,List.getElem_cons_zero]
                refine wpAny_ready (rs:=[0,7]) (by kernel_rfl) (by simp) ?_
                refine (AllReady.cons rfl (fun K hK => ?_) (AllReady.cons rfl (fun K hK => ?_) AllReady.nil))
                · go_simp
                  refine hK _ _ ?_
                  clear hK K
                  try simp only [Act.put,List.setIfInBounds_toArray,List.set_cons_zero,List.set_cons_succ,List.getElem_toArray,List.getElem_cons_succ,List.getElem_cons_zero]
                  refine wpAny_ready (rs:=[7]) (by kernel_rfl) (by simp) ?_
                  refine (AllReady.cons rfl (fun K hK => ?_) AllReady.nil)
                  · go_simp
                    refine hK _ _ ?_
                    clear hK K
                    try simp only [Act.put,List.setIfInBounds_toArray,List.set_cons_zero,List.set_cons_succ,List.getElem_toArray,List.getElem_cons_succ,List.getElem_cons_zero]
                    refine wpAny_ready (rs:=[8]) (by kernel_rfl) (by simp) ?_
                    refine (AllReady.cons rfl (fun K hK => ?_) AllReady.nil)
                    · refine step_append_lies _ (by rfl) _ _ _ (by rfl) w.heap.size 9 i0 _ 1 16 Tryz.underlying63 hi hz0 hz1 hz2 rfl (by omega) _ _ _ (by rfl) (row_drew (hrow.alloc _)) ⟨wr.heap.size,0,none⟩ 1 1 [.string (D ++ ⟨#[45]⟩ ++ E)] (by rfl) (by rfl) (World.news_of_block (cs:=#[.string (D ++ ⟨#[45]⟩ ++ E)]) (t:=9) (fr:=(0,0)) (heap_alloc_new wr _)) (by simp [Value.oneCell']) (by omega) (by unfold maxLen; omega) (by omega) (by have:=hB.size; simp; omega) (wr.heap.size + 1) (by simp) ?_
                      intro g' cap' w1 hown' hgrow hat hlt'
                      obtain ⟨hv1,hv2,hr2,hk2,hb2⟩:=hv.appended (tmp:=.cells #[.string (D ++ ⟨#[45]⟩ ++ E)] 9) (by decide) hrow hB.size (Nat.le_succ _) hown' (grown_undrew hgrow)
                      have hc1:=hv1.cell
                      have hf1:=hv1.frozen
                      have lw1:=hv1.lt
                      refine hK _ _ ?_
                      clear hK K
                      try simp only [Act.put,List.setIfInBounds_toArray,List.set_cons_zero,List.set_cons_succ,List.getElem_toArray,List.getElem_cons_succ,List.getElem_cons_zero]
                      refine wpAny_ready (rs:=[9]) (by kernel_rfl) (by simp) ?_
                      refine (AllReady.cons rfl (fun K hK => ?_) AllReady.nil)
                      · go_simp
                        refine hK _ _ ?_
                        clear hK K
                        try simp only [Act.put,List.setIfInBounds_toArray,List.set_cons_zero,List.set_cons_succ,List.getElem_toArray,List.getElem_cons_succ,List.getElem_cons_zero]
                        refine wpAny_done (by kernel_rfl) ?_ _
                        simp only [OnlyN,Exit.then]
                        have eS:=((hS.alloc (.cells #[.string (D ++ ⟨#[45]⟩ ++ E)] 9)).kept (grown_undrew hgrow) (hS.not_row (by decide : 50 ≠ 9) hrow)).other (by omega : w.heap.size ≠ w.heap.size + 1) (.slice (some ⟨g',0,none⟩) (ws.length + 1) cap')
                        have eN:=((hN.alloc (.cells #[.string (D ++ ⟨#[45]⟩ ++ E)] 9)).kept (grown_undrew hgrow) (hN.not_row (by decide : 3 ≠ 9) hrow)).other (by omega : w.heap.size + 2 ≠ w.heap.size + 1) (.slice (some ⟨g',0,none⟩) (ws.length + 1) cap')
                        have eU:=((hu.alloc (.cells #[.string (D ++ ⟨#[45]⟩ ++ E)] 9)).kept (grown_undrew hgrow) (hu.not_row (by decide : 50 ≠ 9) hrow)).other (by omega : w.heap.size + 3 ≠ w.heap.size + 1) (.slice (some ⟨g',0,none⟩) (ws.length + 1) cap')
                        have cN2:=eN.cell
                        have fN2:=eN.frozen
                        have lN2:=eN.lt
                        gi_wp2_with fail
                        have hnum : (Value.int .i64 ((last : Int) + 1)) = .int .i64 ((last + 1 : Nat) : Int):=by go_num
                        rw [hnum]
                        exact ⟨(hk2.trans (KeepsOthers.setCell _ _ _)).from _,Writes.of (hst.out.trans hrun.out) (hv2.other (by omega) _) (by rw [strsV_snoc,List.length_append,byt_run',HD.out,HE.out]; exact hr2.kept (grownBy_setCell' _ _ _) (.inr (eN.not_row (by decide : 3 ≠ 9) hr2).symm)) (eS.other (by omega) _) (eN.set _) ((hB.trans hb2).setCell (p:=⟨w.heap.size + 2,0,none⟩) (by simp) _) (eU.other (by omega) _),(eU.other (by omega) _).trans hu.symm⟩
                · go_simp
                  refine hK _ _ ?_
                  clear hK K
                  try simp only [Act.put,List.setIfInBounds_toArray,List.set_cons_zero,List.set_cons_succ,List.getElem_toArray,List.getElem_cons_succ,List.getElem_cons_zero]
                  refine wpAny_ready (rs:=[0]) (by kernel_rfl) (by simp) ?_
                  refine (AllReady.cons rfl (fun K hK => ?_) AllReady.nil)
                  · go_simp
                    refine hK _ _ ?_
                    clear hK K
                    try simp only [Act.put,List.setIfInBounds_toArray,List.set_cons_zero,List.set_cons_succ,List.getElem_toArray,List.getElem_cons_succ,List.getElem_cons_zero]
                    refine wpAny_ready (rs:=[8]) (by kernel_rfl) (by simp) ?_
                    refine (AllReady.cons rfl (fun K hK => ?_) AllReady.nil)
                    · refine step_append_lies _ (by rfl) _ _ _ (by rfl) w.heap.size 9 i0 _ 1 16 Tryz.underlying63 hi hz0 hz1 hz2 rfl (by omega) _ _ _ (by rfl) (row_drew (hrow.alloc _)) ⟨wr.heap.size,0,none⟩ 1 1 [.string (D ++ ⟨#[45]⟩ ++ E)] (by rfl) (by rfl) (World.news_of_block (cs:=#[.string (D ++ ⟨#[45]⟩ ++ E)]) (t:=9) (fr:=(0,0)) (heap_alloc_new wr _)) (by simp [Value.oneCell']) (by omega) (by unfold maxLen; omega) (by omega) (by have:=hB.size; simp; omega) (wr.heap.size + 1) (by simp) ?_
                      intro g' cap' w1 hown' hgrow hat hlt'
                      obtain ⟨hv1,hv2,hr2,hk2,hb2⟩:=hv.appended (tmp:=.cells #[.string (D ++ ⟨#[45]⟩ ++ E)] 9) (by decide) hrow hB.size (Nat.le_succ _) hown' (grown_undrew hgrow)
                      have hc1:=hv1.cell
                      have hf1:=hv1.frozen
                      have lw1:=hv1.lt
                      refine hK _ _ ?_
                      clear hK K
                      try simp only [Act.put,List.setIfInBounds_toArray,List.set_cons_zero,List.set_cons_succ,List.getElem_toArray,List.getElem_cons_succ,List.getElem_cons_zero]
                      refine wpAny_ready (rs:=[9]) (by kernel_rfl) (by simp) ?_
                      refine (AllReady.cons rfl (fun K hK => ?_) AllReady.nil)
                      · go_simp
                        refine hK _ _ ?_
                        clear hK K
                        try simp only [Act.put,List.setIfInBounds_toArray,List.set_cons_zero,List.set_cons_succ,List.getElem_toArray,List.getElem_cons_succ,List.getElem_cons_zero]
                        refine wpAny_done (by kernel_rfl) ?_ _
                        simp only [OnlyN,Exit.then]
                        have eS:=((hS.alloc (.cells #[.string (D ++ ⟨#[45]⟩ ++ E)] 9)).kept (grown_undrew hgrow) (hS.not_row (by decide : 50 ≠ 9) hrow)).other (by omega : w.heap.size ≠ w.heap.size + 1) (.slice (some ⟨g',0,none⟩) (ws.length + 1) cap')
                        have eN:=((hN.alloc (.cells #[.string (D ++ ⟨#[45]⟩ ++ E)] 9)).kept (grown_undrew hgrow) (hN.not_row (by decide : 3 ≠ 9) hrow)).other (by omega : w.heap.size + 2 ≠ w.heap.size + 1) (.slice (some ⟨g',0,none⟩) (ws.length + 1) cap')
                        have eU:=((hu.alloc (.cells #[.string (D ++ ⟨#[45]⟩ ++ E)] 9)).kept (grown_undrew hgrow) (hu.not_row (by decide : 50 ≠ 9) hrow)).other (by omega : w.heap.size + 3 ≠ w.heap.size + 1) (.slice (some ⟨g',0,none⟩) (ws.length + 1) cap')
                        have cN2:=eN.cell
                        have fN2:=eN.frozen
                        have lN2:=eN.lt
                        gi_wp2_with fail
                        have hnum : (Value.int .i64 ((last : Int) + 1)) = .int .i64 ((last + 1 : Nat) : Int):=by go_num
                        rw [hnum]
                        exact ⟨(hk2.trans (KeepsOthers.setCell _ _ _)).from _,Writes.of (hst.out.trans hrun.out) (hv2.other (by omega) _) (by rw [strsV_snoc,List.length_append,byt_run',HD.out,HE.out]; exact hr2.kept (grownBy_setCell' _ _ _) (.inr (eN.not_row (by decide : 3 ≠ 9) hr2).symm)) (eS.other (by omega) _) (eN.set _) ((hB.trans hb2).setCell (p:=⟨w.heap.size + 2,0,none⟩) (by simp) _) (eU.other (by omega) _),(eU.other (by omega) _).trans hu.symm⟩
        · have hv2 : last + 1 < 64:=by
            rcases Nat.lt_or_ge (last + 1) 64 with c | c
            · exact c
            · rw [over_bit s _ HS.out c] at hb; cases hb
          have H2:=keep hb
          clear hb
          gi_wp2_with fail
          go_roundw
          case rel =>
            refine ⟨last + 1,by omega,hv2,by go_num,by trivial,keep (fun j h1 h2 => ?_)⟩
            rcases Nat.lt_or_ge last j with c | c
            · obtain rfl : j = last + 1:=by omega
              exact H2.out
            · exact HV.out j h1 c
          case measure => simp [intOf]; omega
  case done =>
    intro D W hD hW hK
    obtain ⟨v,hv,hrow,hS,hN,hB,u,hu⟩:=hW
    have hwl : wordsL s (bitsL s) = wordsF s 64:=by rw [show bitsL s = bitsN s 64 from by unfold bitsL; rfl,wordsL_bits]
    rw [hwl] at hrow
    have hne:=wordsF_some s HS.out (by intro e; subst e; exact absurd q0 (by decide))
    have hlen2 : (wordsF s 64).2.length ≤ 64:=by
      have h1:=wordsL_len s (bitsN s 64)
      rw [wordsL_bits] at h1
      omega
    have hpos : 0 < (wordsF s 64).2.length:=List.length_pos_iff.2 hne
    obtain ⟨g,cap,rfl,_,hg⟩:=hrow.form hpos
    have hcap : (wordsF s 64).2.length ≤ cap:=by
      rcases hrow.2 with ⟨e,_⟩ | ⟨g',cap',cur,e,_,_,h1,_⟩
      · cases e
      · cases e; omega
    have hxs:=@World.ownsRow.cells _ _ _ _ _ _ _ hrow
    have hcells : ∀ (j : Nat) x,((wordsF s 64).2.map byt)[j]? = some x → W.cell? ⟨g,0 + j,none⟩ = some (.string x):=by
      intro j x hx
      have h1:=hxs rfl j (.string x) (by
        rw [List.getElem?_map] at hx
        rw [strsV,List.getElem?_map]
        cases hq : (wordsF s 64).2[j]? with
        | none => rw [hq] at hx; cases hx
        | some y => rw [hq] at hx; obtain rfl:=Option.some.inj hx; rfl)
      rwa [show (⟨g,0 + j,none⟩ : Addr) = (⟨g,0,none⟩ : Addr).add j from by unfold Addr.add; split <;> simp_all]
    have hdat : ((wordsF s 64).2.map byt).map (fun b => b.data.toList) = (wordsF s 64).2:=by
      rw [List.map_map]
      have : (fun b : ByteArray => b.data.toList) ∘ byt = id:=by funext l; unfold byt; simp
      rw [this,List.map_id]
    have hjoin : Lib.join (((wordsF s 64).2.map byt).map (fun b => b.data.toList)) (⟨#[44]⟩ : ByteArray).data.toList = textW s 64:=by
      rw [hdat]; unfold textW; rfl
    have HC:=keep hcells
    have HJ:=keep hjoin
    have HL:=keep hlen2
    have HN:=keep (show ((wordsF s 64).2.map byt).length = (wordsF s 64).2.length from by rw [List.length_map])
    have hc:=hv.cell
    have lv:=hv.lt
    have hT2:=textW_len s 64
    have hJ:=Tryz.strings_Join g 0 cap ((wordsF s 64).2.map byt) ⟨#[44]⟩ W HC.out hg (by rw [HN.out]; omega) (by rw [HN.out]; exact hcap) (by rw [HJ.out]; omega)
    rw [HN.out,HJ.out] at hJ
    have HJC:=keep hJ
    clear hwl hne hlen2 hpos hxs hcells hdat hjoin hJ HC HJ HN
    gi_wp2_with fail
    refine ⟨trivial,((callsIn_wide (n:=5)).2 HJC.out).mono ?_⟩
    rintro e W2 ⟨rfl,hb2⟩
    have hK2 : W2.heap[D]? = some (.deferred (some [])):=(hb2.block D (Array.getElem?_eq_some_iff.1 hK).1).trans hK
    have hB2:=below_step hB (W':=W2) (hb2.mono (by have:=hB.size; omega))
    gi_wp2_with fail
    refine ⟨by simp,.inl ⟨_,_,rfl,run_takeDeferred hK2,?_⟩⟩
    exact ⟨_,results_tmp rfl _ _ _,by first | rfl | (rw [byt_eq]; rfl),hB2.trans (belowK_b (w:=w) (Nat.le_refl _) W2 D _ _ (by simp at hD; omega) hK2 rfl rfl)⟩
set_option maxRecDepth 100000 in
theorem group_format (s : Nat) (w : World) (hs : s < 18446744073709551616) (hT : Bru w) :
    Calls Tryz.prog 59 #[.int .u64 s] w fun e w' => e = .returned (.string (byt (gfmtL s))) ∧ Below w.heap.size w w':=by
  by_cases h0 : s = 0
  · subst h0
    have e : byt (gfmtL 0) = ⟨#[45]⟩:=by unfold gfmtL byt; rfl
    rw [e]
    go_enter Tryz.func59,Tryz.ntmps59
    go_wp2_with fail
    go_ret
    exact ⟨rfl,(Below.refl _ _).alloc (Nat.le_refl _) _⟩
  by_cases h1 : s = 18446744073709551615
  · subst h1
    have e : byt (gfmtL 18446744073709551615) = ⟨#[42]⟩:=by unfold gfmtL byt; rfl
    rw [e]
    go_enter Tryz.func59,Tryz.ntmps59
    go_wp2_with fail
    go_ret
    exact ⟨rfl,(Below.refl _ _).alloc (Nat.le_refl _) _⟩
  have e : gfmtL s = textW s 64:=by unfold gfmtL; rw [if_neg h0,if_neg h1]
  rw [e]
  exact group_format_mid s w hs h0 h1 hT
end Go.Proofs.YtmalncmdfmoccaaGreatDoor
