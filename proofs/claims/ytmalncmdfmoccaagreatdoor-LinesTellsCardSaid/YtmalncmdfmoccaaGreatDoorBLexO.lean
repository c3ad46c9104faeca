/- What a strings.Builder's WriteString comes to, off the shelf's own laws. The contracts of glyph.Check and glyph.Quote. lex.name: whether a word may be a name. -/
import Derived.Test.YtmalncmdfmoccaaGreatDoorBShelf
import Derived.Shelf.Strings.BuilderF
import Derived.Test.YtmalncmdfmoccaaGreatDoorBLexI
import Derived.Test.YtmalncmdfmoccaaGreatDoorBLexP
import Derived.Lib.Replace
import Derived.Test.YtmalncmdfmoccaaGreatDoorBLexC
namespace Go.Proofs.YtmalncmdfmoccaaGreatDoor
section
open Go.RowKit
def Bld (B b : Nat) (l : List UInt8) (w : World) : Prop:=Lib.IsBuilderF 97 5 B b (Lib.byteCells l) w
theorem bld_at_below {T e : TypeId} {B b : Nat} {p : Value} {bs : List Value} {w w' : World} (h : Lib.BuilderAtF T e B b p bs w) (hb : Below w.heap.size w w') : Lib.BuilderAtF T e B b p bs w':=by
  have hlt:=h.lt
  obtain ⟨hB,v,hv,hown,hne⟩:=h
  exact ⟨hB,v,(hb.block b hlt).trans hv,hown.kept (row:=none) ⟨hb.os,hb.tape,hb.output,hb.size,fun k hk _ => hb.block k hk⟩ (by cases hv : v.ownBlock <;> simp),hne⟩
theorem Bld.below {B b : Nat} {l : List UInt8} {w w' : World} (h : Bld B b l w) (hb : Below w.heap.size w w') : Bld B b l w' :=
  h.elim (fun h => .inl (bld_at_below h hb)) fun h => .inr (bld_at_below h hb)
theorem Bld.new (w : World) : Bld w.heap.size w.heap.size [] (w.alloc (.cells #[.pointer none,.slice none 0 0] 97)) :=
  .inl ⟨Nat.le_refl _,.slice none 0 0,Array.getElem?_push_size,World.ownsRowF_nil _ _ _ _,by simp [Value.ownBlock]⟩
theorem Bld.len {B b : Nat} {l : List UInt8} {w : World} (h : Bld B b l w) :
    Calls Tryz.prog 46 #[.pointer (some ⟨b,0,none⟩)] w fun e w' => e = .returned (.int .i64 l.length) ∧ w' = w:=by
  refine (Tryz.Builder_Len_f B b _ w h).mono ?_
  rintro e w' ⟨h1,h2⟩
  exact ⟨by rw [h1]; simp [Lib.byteCells],h2⟩
theorem Bld.text {B b : Nat} {l : List UInt8} {w : World} (h : Bld B b l w) (hBw : B ≤ w.heap.size) :
    Calls Tryz.prog 47 #[.pointer (some ⟨b,0,none⟩)] w fun e w' => e = .returned (.string ⟨l.toArray⟩) ∧ Bld B b l w' ∧ Below B w w' :=
  Tryz.Builder_String_any_f B b l w h hBw
end
section
open Go.RowKit
theorem replK_quote : ∀ (s : List UInt8) (k : Nat),s.count 34 ≤ k → Lib.replaceK [34] [34,34] k s = s.flatMap quoteB
  | [],k,_ => by cases k <;> rfl
  | b :: s,k,h => by
    by_cases hb : b = 34
    · subst hb
      rw [List.count_cons_self] at h
      obtain ⟨k,rfl⟩ : ∃ n,k = n + 1:=⟨k - 1,by omega⟩
      have hi : Lib.index (34 :: s) [34] = ((0 : Nat) : Int):=by rw [Lib.index_one]; rfl
      rw [Lib.replaceK_hit _ _ _ _ 0 hi,List.flatMap_cons]
      have:=replK_quote s k (by omega)
      simp only [List.length_cons,List.length_nil,Nat.zero_add,List.drop_succ_cons,List.drop_zero,List.take_zero,List.nil_append]
      rw [this]
      rfl
    · have hb' : (b == 34) = false:=beq_eq_false_iff_ne.2 hb
      rw [List.count_cons_of_ne hb] at h
      have hq : (b :: s).flatMap quoteB = b :: s.flatMap quoteB:=by
        rw [List.flatMap_cons]
        unfold quoteB
        rw [if_neg hb]
        rfl
      rw [hq,← replK_quote s k h]
      cases k with
      | zero => rfl
      | succ k =>
        have h1 : Lib.index (b :: s) [34] = if Lib.index s [34] == -1 then -1 else Lib.index s [34] + 1:=by
          rw [Lib.index_one,Lib.index_one]
          conv => lhs; unfold Lib.indexByte
          rw [hb']
          rfl
        have hge:=Lib.index_ge s [34]
        by_cases hm : Lib.index s [34] = -1
        · have e1 : Lib.index (b :: s) [34] = -1:=by rw [h1,if_pos (beq_iff_eq.2 hm)]
          unfold Lib.replaceK
          rw [if_pos (beq_iff_eq.2 e1),if_pos (beq_iff_eq.2 hm)]
        · have hm' : ¬ (Lib.index s [34] == -1) = true:=fun e => hm (beq_iff_eq.1 e)
          obtain ⟨i,hi⟩ : ∃ i : Nat,Lib.index s [34] = i:=⟨(Lib.index s [34]).toNat,by omega⟩
          have e1 : Lib.index (b :: s) [34] = ((i + 1 : Nat) : Int):=by rw [h1,if_neg hm',hi]; rfl
          rw [Lib.replaceK_hit _ _ _ _ _ e1,Lib.replaceK_hit _ _ _ _ _ hi]
          simp
theorem repl_quote (s : List UInt8) : Lib.replaceAll s [34] [34,34] = s.flatMap quoteB:=by
  unfold Lib.replaceAll Lib.replace
  rw [if_neg (by decide),Lib.replaceNum,if_pos (Or.inl (by decide)),replK_quote]
  rw [Lib.count_one]
  exact Nat.le_refl _
theorem quote_len2 : ∀ l : List UInt8,(l.flatMap quoteB).length ≤ 2 * l.length
  | [] => by simp
  | b :: l => by
    have:=quote_len2 l
    have h2 : (quoteB b).length ≤ 2:=by unfold quoteB; split <;> simp
    rw [List.flatMap_cons,List.length_append,List.length_cons]
    omega
def checkT (l : List UInt8) : Int:=if 256 < l.length then 5 else if l.all plainB then 0 else 4
theorem glyph_Check (s : ByteArray) (w : World) (hs : s.size ≤ 4611686018427387904) :
    Calls Tryz.prog 20 #[.string s] w fun e w' => e = .returned (.int .i64 (checkT s.data.toList)) ∧ Below w.heap.size w w':=by
  have hl : s.data.toList.length = s.size:=Array.length_toList
  obtain ⟨c,hc⟩ : ∃ c,checkT s.data.toList = c:=⟨_,rfl⟩
  rw [hc]
  unfold checkT at hc
  rw [hl] at hc
  have HC:=keep hc
  clear hc hl
  go_enter Tryz.func20,Tryz.ntmps20
  by_cases h : 256 < s.size
  · have h1 : decide ((256 : Int) < (s.size : Int)) = true:=decide_eq_true (by omega)
    go_wp2
    go_ret
    have:=HC.out
    rw [if_pos h] at this
    exact ⟨by rw [this]; rfl,Below.refl _ _⟩
  · have h1 : decide ((256 : Int) < (s.size : Int)) = false:=decide_eq_false (by omega)
    go_wp2_with fail
    refine (glyph_printable s _ hs).mono ?_
    rintro e w1 ⟨rfl,hb⟩
    obtain ⟨p,hp⟩ : ∃ p,s.data.toList.all plainB = p:=⟨_,rfl⟩
    rw [hp]
    have HP:=keep hp
    have HB:=Lib.hid hb
    clear hp hb
    cases p with
    | true =>
      go_wp2
      go_ret
      have:=HC.out
      rw [if_neg h,if_pos HP.out] at this
      exact ⟨by rw [this]; rfl,HB.out⟩
    | false =>
      go_wp2
      go_ret
      have:=HC.out
      rw [if_neg h,if_neg (by rw [HP.out]; decide)] at this
      exact ⟨by rw [this]; rfl,HB.out⟩
theorem str_two (W : World) (x y : Int) :
    (convert 95 9 (.slice (some ⟨W.heap.size,0,none⟩) 2 2)).run Tryz.prog (W.alloc (.cells #[.int .u8 x,.int .u8 y] 5)) = .ok (.string ⟨#[UInt8.ofNat x.toNat,UInt8.ofNat y.toNat]⟩) (W.alloc (.cells #[.int .u8 x,.int .u8 y] 5)):=by
  rw [run_convert_bytes_string _ _ _ 5 _ _ _ Tryz.underlying95 Tryz.underlying5 Tryz.underlying9]
  rw [run_bytesToString _ _ 2 2 [x,y]]
  · rfl
  · simp [go_sem]
def quoteT (l : List UInt8) : List UInt8:=if checkT l = 0 then quoteS l else []
theorem glyph_Quote (s : ByteArray) (w : World) (hs : s.size ≤ 4611686018427387904) (hm : ∃ m,w.cell? ⟨1,0,none⟩ = some (.int .i64 m)) :
    Calls Tryz.prog 22 #[.string s] w fun e w' => e = .returned (.tuple #[.string ⟨(quoteT s.data.toList).toArray⟩,.int .i64 (checkT s.data.toList)]) ∧ Below w.heap.size w w':=by
  obtain ⟨m,hm⟩:=hm
  have HM:=Lib.hid hm
  clear hm
  obtain ⟨c,hc⟩ : ∃ c,checkT s.data.toList = c:=⟨_,rfl⟩
  obtain ⟨q,hq⟩ : ∃ q,quoteT s.data.toList = q:=⟨_,rfl⟩
  have HC:=keep hc
  have HQ:=keep hq
  rw [hc,hq]
  clear hc hq
  go_enter Tryz.func22,Tryz.ntmps22
  go_wp2_with fail
  refine (glyph_Check s _ hs).mono ?_
  rintro e w1 ⟨rfl,hb⟩
  rw [HC.out]
  have HB:=Lib.hid hb
  clear hb
  by_cases h : c = 0
  · subst h
    have hsz : s.size ≤ 256:=by
      have:=HC.out
      unfold checkT at this
      split at this
      · cases this
      · have hl : s.data.toList.length = s.size:=Array.length_toList
        omega
    have hx:=str_two w1 34 34
    go_wp2_with fail
    have hcell:=cell_step HB.out HM.out
    refine (Tryz.strings_ReplaceAll s ⟨#[34]⟩ ⟨#[34,34]⟩ m _ (by omega) ?c2 (by decide) ?c3).mono ?_
    case c2 => exact (World.cell?_alloc_lt _ _ _ (World.block_lt_of_cell? _ _ hcell)).trans hcell
    case c3 =>
      have:=Lib.countB_le ⟨#[34]⟩ (by decide) s.size s (Nat.le_refl _)
      show s.size + _ * 2 ≤ _
      omega
    rintro e w2 ⟨rfl,hb⟩
    rw [show (⟨#[34]⟩ : ByteArray).data.toList = [34] from rfl,show (⟨#[34,34]⟩ : ByteArray).data.toList = [34,34] from rfl,repl_quote]
    obtain ⟨R,hR⟩ : ∃ R,s.data.toList.flatMap quoteB = R:=⟨_,rfl⟩
    rw [hR]
    have HR:=keep hR
    have HB2:=Lib.hid ((HB.out.alloc HB.out.size _).trans (hb.mono (HB.out.alloc HB.out.size _).size))
    have hRl : R.length ≤ 512:=by
      rw [← hR]
      have:=quote_len2 s.data.toList
      have hl : s.data.toList.length = s.size:=Array.length_toList
      omega
    clear hR hb hx hcell
    go_wp2
    refine bodyPost_ret (v:=.tuple #[.string (((⟨#[34]⟩ : ByteArray) ++ ⟨R.toArray⟩) ++ ⟨#[34]⟩),.int .i64 0]) (by simp [results,Tryz.results22,go_sem]) rfl ⟨?_,HB2.out⟩
    rw [← HQ.out]
    unfold quoteT quoteS
    rw [if_pos HC.out,HR.out]
    congr 3
  · have h1 : (c != 0) = true:=by simp [h]
    go_wp2
    refine bodyPost_ret (v:=.tuple #[.string ⟨#[]⟩,.int .i64 c]) (by simp [results,Tryz.results22,go_sem]) rfl ⟨?_,HB.out⟩
    rw [← HQ.out]
    unfold quoteT
    rw [if_neg (by rw [HC.out]; exact h)]
end
section
open Go.RowKit
attribute [local go_sem] Oper.semAt_some
end
end Go.Proofs.YtmalncmdfmoccaaGreatDoor
