/- Contracts of the reference's Column and Parse of addresses. The contract of the laws' fixed address. The walks of the laws AddrLess, AddrOrder and AddrReads. Rows of strings, and strings.Join of them. The contract of the lexer's text. What a strings.Builder's WriteString comes to, off the shelf's own laws. The contracts of glyph.Check and glyph.Quote. lex.name: whether a word may be a name. -/
import Derived.Test.YtmalncmdfmoccaaGreatDoorCAddrW2
import Derived.Test.YtmalncmdfmoccaaGreatDoorCAddrW3
import Derived.Lib.IndexBytes
import Derived.Test.YtmalncmdfmoccaaGreatDoorCGrpF
import Derived.OpenShut
import Derived.Deep.RegionHeld3
import Derived.Test.YtmalncmdfmoccaaGreatDoorCOk
import Derived.Test.YtmalncmdfmoccaaGreatDoorCLexI
import Derived.Test.YtmalncmdfmoccaaGreatDoorCShelf
import Derived.Deep.DeepCutAuto
import Derived.Shelf.Strings.BuilderF
import Derived.Test.YtmalncmdfmoccaaGreatDoorCLexP
import Derived.Lib.Replace
import Derived.Test.YtmalncmdfmoccaaGreatDoorCLexC
namespace Go.Proofs.YtmalncmdfmoccaaGreatDoor
open Go.RowKit
end Go.Proofs.YtmalncmdfmoccaaGreatDoor
namespace Go.Proofs.YtmalncmdfmoccaaGreatDoor
section
open Go.RowKit
end
section
open Go.RowKit
end
end Go.Proofs.YtmalncmdfmoccaaGreatDoor
namespace Go.Proofs.YtmalncmdfmoccaaGreatDoor
open Go.RowKit
def byt (l : List UInt8) : ByteArray:=⟨l.toArray⟩
def strsV (l : List (List UInt8)) : List Value:=l.map fun x => .string (byt x)
theorem strsV_snoc (l : List (List UInt8)) (x : List UInt8) : strsV (l ++ [x]) = strsV l ++ [.string (byt x)]:=by simp [strsV]
theorem byt_map (l : List (List UInt8)) : (l.map byt).map (·.data.toList) = l:=by
  rw [List.map_map]
  have : ((fun x : ByteArray => x.data.toList) ∘ byt) = id:=by funext x; rfl
  rw [this,List.map_id]
theorem join_cells {w : World} {g n cap : Nat} (l : List (List UInt8)) (c : UInt8) (hc : ∀ (j : Nat) x,(strsV l)[j]? = some x → w.cell? ⟨g,j,none⟩ = some x) (hg : g < w.heap.size) (hn : l.length = n) (hcap : n ≤ cap) (hl : l.length ≤ 100000)
    (hlen : (Lib.join l [c]).length ≤ 140737488355328) :
    Calls Tryz.prog 61 #[.slice (some ⟨g,0,none⟩) n cap,.string ⟨#[c]⟩] w fun e w' => e = .returned (.string ⟨(Lib.join l [c]).toArray⟩) ∧ Below w.heap.size w w':=by
  subst hn
  have h:=Tryz.strings_Join g 0 cap (l.map byt) ⟨#[c]⟩ w (fun j x hx => by
    rw [Nat.zero_add]
    refine hc j _ ?_
    unfold strsV
    rw [List.getElem?_map] at hx ⊢
    obtain ⟨y,hy,rfl⟩:=Option.map_eq_some_iff.1 hx
    rw [hy]; rfl) hg (by simp; omega) (by simpa using hcap) (by rw [byt_map]; exact hlen)
  rw [byt_map,List.length_map] at h
  exact h
theorem join_blk {w : World} {g n : Nat} (l : List (List UInt8)) (c : UInt8) (h : Blk w g 9 (strsV l).toArray) (hn : l.length = n) (hl : l.length ≤ 100000) (hlen : (Lib.join l [c]).length ≤ 140737488355328) :
    Calls Tryz.prog 61 #[.slice (some ⟨g,0,none⟩) n n,.string ⟨#[c]⟩] w fun e w' => e = .returned (.string ⟨(Lib.join l [c]).toArray⟩) ∧ Below w.heap.size w w' :=
  join_cells l c (fun j x hx => by rw [h.cell j,List.getElem?_toArray]; exact hx) h.lt hn (Nat.le_refl _) hl hlen
theorem join_own {w : World} {base : Nat} {v : Value} (l : List (List UInt8)) (c : UInt8) (h : w.ownsRow base 9 1 v l.length (strsV l)) (hne : l ≠ []) (hl : l.length ≤ 100000) (hlen : (Lib.join l [c]).length ≤ 140737488355328) :
    Calls Tryz.prog 61 #[v,.string ⟨#[c]⟩] w fun e w' => e = .returned (.string ⟨(Lib.join l [c]).toArray⟩) ∧ Below w.heap.size w w':=by
  have hc:=@World.ownsRow.cells _ _ _ _ _ _ _ h
  have hlt:=h.lt
  rcases h.2 with ⟨rfl,h0⟩ | ⟨g,cap,cur,rfl,h4,h5,h6,h7,h8,h9⟩
  · exact absurd (List.length_eq_zero_iff.1 h0) hne
  · refine join_cells l c (fun j x hx => ?_) (hlt g rfl).2 rfl h6 hl hlen
    have h10:=hc rfl j x hx
    rw [show (⟨g,0,none⟩ : Addr).add j = ⟨g,0 + j,none⟩ by unfold Addr.add; split <;> simp_all,Nat.zero_add] at h10
    exact h10
end Go.Proofs.YtmalncmdfmoccaaGreatDoor
namespace Go.Proofs.YtmalncmdfmoccaaGreatDoor
open Go.RowKit
def txtR (l : List UInt8) (i : Nat) : Option (Tk × Nat):=if l.head? = some 34 then (unqS (l.drop 1)).map fun x => (⟨2,0,x.1,R4.zero,i⟩,x.2 + 1) else none
def Seek (s : ByteArray) (a k : Nat) : Prop:=(unqS (s.data.toList.drop a)).map (·.2) = (unqS (s.data.toList.drop k)).map fun p => p.2 + (k - a)
theorem Seek.step {s : ByteArray} {a k : Nat} (h : Seek s a k) (ha : a ≤ k) (hk : k < s.size) (h1 : s[k]'hk ≠ 34) : Seek s a (k + 1):=by
  have hsl : s.data.toList.length = s.size:=by rw [Array.length_toList]; rfl
  have hd : s.data.toList.drop k = s[k]'hk :: s.data.toList.drop (k + 1):=List.drop_eq_getElem_cons (by omega)
  unfold Seek at h ⊢
  rw [h,hd]
  cases hr : s.data.toList.drop (k + 1) with
  | nil => rw [unq_one,if_neg h1]; rfl
  | cons c r =>
    rw [unq_two,if_neg h1]
    cases unqS (c :: r) with
    | none => rfl
    | some y => simp; omega
theorem Seek.pair {s : ByteArray} {a k : Nat} (h : Seek s a k) (ha : a ≤ k) (hk : k + 1 < s.size) (h1 : s[k]'(by omega) = 34) (h2 : s[k + 1]'hk = 34) : Seek s a (k + 2):=by
  have hsl : s.data.toList.length = s.size:=by rw [Array.length_toList]; rfl
  have hd : s.data.toList.drop k = s[k]'(by omega) :: s[k + 1]'hk :: s.data.toList.drop (k + 2):=by
    rw [List.drop_eq_getElem_cons (by omega),List.drop_eq_getElem_cons (by omega)]
    rfl
  unfold Seek at h ⊢
  rw [h,hd,unq_two,if_pos h1,if_pos h2]
  cases unqS (s.data.toList.drop (k + 2)) with
  | none => rfl
  | some y => simp; omega
theorem Seek.last {s : ByteArray} {a k : Nat} (h : Seek s a k) (ha : a ≤ k) (hk : k < s.size) (h1 : s[k]'hk = 34) (h2 : ∀ h : k + 1 < s.size,s[k + 1]'h ≠ 34) : ∃ t,unqS (s.data.toList.drop a) = some (t,k + 1 - a):=by
  have hsl : s.data.toList.length = s.size:=by rw [Array.length_toList]; rfl
  have hu : unqS (s.data.toList.drop k) = some ([],1):=by
    have hd : s.data.toList.drop k = s[k]'hk :: s.data.toList.drop (k + 1):=List.drop_eq_getElem_cons (by omega)
    rw [hd]
    by_cases hk1 : k + 1 < s.size
    · have hd2 : s.data.toList.drop (k + 1) = s[k + 1]'hk1 :: s.data.toList.drop (k + 2):=List.drop_eq_getElem_cons (by omega)
      rw [hd2,unq_two,if_pos h1,if_neg (h2 hk1)]
    · rw [List.drop_eq_nil_of_le (by omega),unq_one,if_pos h1]
  unfold Seek at h
  rw [hu] at h
  cases hv : unqS (s.data.toList.drop a) with
  | none => rw [hv] at h; simp at h
  | some y =>
    rw [hv] at h
    simp at h
    exact ⟨y.1,by rw [show k + 1 - a = y.2 by omega]⟩
theorem Seek.out {s : ByteArray} {a : Nat} (h : Seek s a s.size) : unqS (s.data.toList.drop a) = none:=by
  have hsl : s.data.toList.length = s.size:=by rw [Array.length_toList]; rfl
  unfold Seek at h
  have hd : s.data.toList.drop s.size = []:=List.drop_eq_nil_of_le (by omega)
  rw [hd] at h
  cases hv : unqS (s.data.toList.drop a) with
  | none => rfl
  | some y => rw [hv] at h; simp [unqS] at h
end Go.Proofs.YtmalncmdfmoccaaGreatDoor
namespace Go.Proofs.YtmalncmdfmoccaaGreatDoor
section
open Go.RowKit
def Bld (B b : Nat) (l : List UInt8) (w : World) : Prop:=Lib.IsBuilderF 97 5 B b (Lib.byteCells l) w
theorem bld_at_below {T e : TypeId} {B b : Nat} {p : Value} {bs : List Value} {w w' : World} (h : Lib.BuilderAtF T e B b p bs w) (hb : Below w.heap.size w w') : Lib.BuilderAtF T e B b p bs w':=by
  have hlt:=h.lt
  obtain ⟨hB,v,hv,hown,hne⟩:=h
  exact ⟨hB,v,(hb.block b hlt).trans hv,hown.kept (row:=none) ⟨hb.os,hb.tape,hb.output,hb.size,fun k hk _ => hb.block k hk⟩ (by cases hv : v.ownBlock <;> simp),hne⟩
theorem Bld.below {B b : Nat} {l : List UInt8} {w w' : World} (h : Bld B b l w) (hb : Below w.heap.size w w') : Bld B b l w' :=
  h.elim (fun h => .inl (bld_at_below h hb)) fun h => .inr (bld_at_below h hb)
theorem Bld.new (w : World) : Bld w.heap.size w.heap.size [] (w.alloc (.cells #[.pointer none,.slice none 0 0] 97)) :=
  .inl ⟨Nat.le_refl _,.slice none 0 0,Array.getElem?_push_size,World.ownsRowF_nil _ _ _ _,by simp [Value.ownBlock]⟩
theorem Bld.len {B b : Nat} {l : List UInt8} {w : World} (h : Bld B b l w) :
    Calls Tryz.prog 46 #[.pointer (some ⟨b,0,none⟩)] w fun e w' => e = .returned (.int .i64 l.length) ∧ w' = w:=by
  refine (Tryz.Builder_Len_f B b _ w h).mono ?_
  rintro e w' ⟨h1,h2⟩
  exact ⟨by rw [h1]; simp [Lib.byteCells],h2⟩
theorem Bld.text {B b : Nat} {l : List UInt8} {w : World} (h : Bld B b l w) (hBw : B ≤ w.heap.size) :
    Calls Tryz.prog 47 #[.pointer (some ⟨b,0,none⟩)] w fun e w' => e = .returned (.string ⟨l.toArray⟩) ∧ Bld B b l w' ∧ Below B w w' :=
  Tryz.Builder_String_any_f B b l w h hBw
end
section
open Go.RowKit
theorem replK_quote : ∀ (s : List UInt8) (k : Nat),s.count 34 ≤ k → Lib.replaceK [34] [34,34] k s = s.flatMap quoteB
  | [],k,_ => by cases k <;> rfl
  | b :: s,k,h => by
    by_cases hb : b = 34
    · subst hb
      rw [List.count_cons_self] at h
      obtain ⟨k,rfl⟩ : ∃ n,k = n + 1:=⟨k - 1,by omega⟩
      have hi : Lib.index (34 :: s) [34] = ((0 : Nat) : Int):=by rw [Lib.index_one]; rfl
      rw [Lib.replaceK_hit _ _ _ _ 0 hi,List.flatMap_cons]
      have:=replK_quote s k (by omega)
      simp only [List.length_cons,List.length_nil,Nat.zero_add,List.drop_succ_cons,List.drop_zero,List.take_zero,List.nil_append]
      rw [this]
      rfl
    · have hb' : (b == 34) = false:=beq_eq_false_iff_ne.2 hb
      rw [List.count_cons_of_ne hb] at h
      have hq : (b :: s).flatMap quoteB = b :: s.flatMap quoteB:=by
        rw [List.flatMap_cons]
        unfold quoteB
        rw [if_neg hb]
        rfl
      rw [hq,← replK_quote s k h]
      cases k with
      | zero => rfl
      | succ k =>
        have h1 : Lib.index (b :: s) [34] = if Lib.index s [34] == -1 then -1 else Lib.index s [34] + 1:=by
          rw [Lib.index_one,Lib.index_one]
          conv => lhs; unfold Lib.indexByte
          rw [hb']
          rfl
        have hge:=Lib.index_ge s [34]
        by_cases hm : Lib.index s [34] = -1
        · have e1 : Lib.index (b :: s) [34] = -1:=by rw [h1,if_pos (beq_iff_eq.2 hm)]
          unfold Lib.replaceK
          rw [if_pos (beq_iff_eq.2 e1),if_pos (beq_iff_eq.2 hm)]
        · have hm' : ¬ (Lib.index s [34] == -1) = true:=fun e => hm (beq_iff_eq.1 e)
          obtain ⟨i,hi⟩ : ∃ i : Nat,Lib.index s [34] = i:=⟨(Lib.index s [34]).toNat,by omega⟩
          have e1 : Lib.index (b :: s) [34] = ((i + 1 : Nat) : Int):=by rw [h1,if_neg hm',hi]; rfl
          rw [Lib.replaceK_hit _ _ _ _ _ e1,Lib.replaceK_hit _ _ _ _ _ hi]
          simp
theorem repl_quote (s : List UInt8) : Lib.replaceAll s [34] [34,34] = s.flatMap quoteB:=by
  unfold Lib.replaceAll Lib.replace
  rw [if_neg (by decide),Lib.replaceNum,if_pos (Or.inl (by decide)),replK_quote]
  rw [Lib.count_one]
  exact Nat.le_refl _
theorem quote_len2 : ∀ l : List UInt8,(l.flatMap quoteB).length ≤ 2 * l.length
  | [] => by simp
  | b :: l => by
    have:=quote_len2 l
    have h2 : (quoteB b).length ≤ 2:=by unfold quoteB; split <;> simp
    rw [List.flatMap_cons,List.length_append,List.length_cons]
    omega
def checkT (l : List UInt8) : Int:=if 256 < l.length then 5 else if l.all plainB then 0 else 4
theorem glyph_Check (s : ByteArray) (w : World) (hs : s.size ≤ 4611686018427387904) :
    Calls Tryz.prog 20 #[.string s] w fun e w' => e = .returned (.int .i64 (checkT s.data.toList)) ∧ Below w.heap.size w w':=by
  have hl : s.data.toList.length = s.size:=Array.length_toList
  obtain ⟨c,hc⟩ : ∃ c,checkT s.data.toList = c:=⟨_,rfl⟩
  rw [hc]
  unfold checkT at hc
  rw [hl] at hc
  have HC:=keep hc
  clear hc hl
  go_enter Tryz.func20,Tryz.ntmps20
  by_cases h : 256 < s.size
  · have h1 : decide ((256 : Int) < (s.size : Int)) = true:=decide_eq_true (by omega)
    go_wp2
    go_ret
    have:=HC.out
    rw [if_pos h] at this
    exact ⟨by rw [this]; rfl,Below.refl _ _⟩
  · have h1 : decide ((256 : Int) < (s.size : Int)) = false:=decide_eq_false (by omega)
    go_wp2_with fail
    refine (glyph_printable s _ hs).mono ?_
    rintro e w1 ⟨rfl,hb⟩
    obtain ⟨p,hp⟩ : ∃ p,s.data.toList.all plainB = p:=⟨_,rfl⟩
    rw [hp]
    have HP:=keep hp
    have HB:=Lib.hid hb
    clear hp hb
    cases p with
    | true =>
      go_wp2
      go_ret
      have:=HC.out
      rw [if_neg h,if_pos HP.out] at this
      exact ⟨by rw [this]; rfl,HB.out⟩
    | false =>
      go_wp2
      go_ret
      have:=HC.out
      rw [if_neg h,if_neg (by rw [HP.out]; decide)] at this
      exact ⟨by rw [this]; rfl,HB.out⟩
theorem str_two (W : World) (x y : Int) :
    (convert 95 9 (.slice (some ⟨W.heap.size,0,none⟩) 2 2)).run Tryz.prog (W.alloc (.cells #[.int .u8 x,.int .u8 y] 5)) = .ok (.string ⟨#[UInt8.ofNat x.toNat,UInt8.ofNat y.toNat]⟩) (W.alloc (.cells #[.int .u8 x,.int .u8 y] 5)):=by
  rw [run_convert_bytes_string _ _ _ 5 _ _ _ Tryz.underlying95 Tryz.underlying5 Tryz.underlying9]
  rw [run_bytesToString _ _ 2 2 [x,y]]
  · rfl
  · simp [go_sem]
def quoteT (l : List UInt8) : List UInt8:=if checkT l = 0 then quoteS l else []
theorem glyph_Quote (s : ByteArray) (w : World) (hs : s.size ≤ 4611686018427387904) (hm : ∃ m,w.cell? ⟨1,0,none⟩ = some (.int .i64 m)) :
    Calls Tryz.prog 22 #[.string s] w fun e w' => e = .returned (.tuple #[.string ⟨(quoteT s.data.toList).toArray⟩,.int .i64 (checkT s.data.toList)]) ∧ Below w.heap.size w w':=by
  obtain ⟨m,hm⟩:=hm
  have HM:=Lib.hid hm
  clear hm
  obtain ⟨c,hc⟩ : ∃ c,checkT s.data.toList = c:=⟨_,rfl⟩
  obtain ⟨q,hq⟩ : ∃ q,quoteT s.data.toList = q:=⟨_,rfl⟩
  have HC:=keep hc
  have HQ:=keep hq
  rw [hc,hq]
  clear hc hq
  go_enter Tryz.func22,Tryz.ntmps22
  go_wp2_with fail
  refine (glyph_Check s _ hs).mono ?_
  rintro e w1 ⟨rfl,hb⟩
  rw [HC.out]
  have HB:=Lib.hid hb
  clear hb
  by_cases h : c = 0
  · subst h
    have hsz : s.size ≤ 256:=by
      have:=HC.out
      unfold checkT at this
      split at this
      · cases this
      · have hl : s.data.toList.length = s.size:=Array.length_toList
        omega
    have hx:=str_two w1 34 34
    go_wp2_with fail
    have hcell:=cell_step HB.out HM.out
    refine (Tryz.strings_ReplaceAll s ⟨#[34]⟩ ⟨#[34,34]⟩ m _ (by omega) ?c2 (by decide) ?c3).mono ?_
    case c2 => exact (World.cell?_alloc_lt _ _ _ (World.block_lt_of_cell? _ _ hcell)).trans hcell
    case c3 =>
      have:=Lib.countB_le ⟨#[34]⟩ (by decide) s.size s (Nat.le_refl _)
      show s.size + _ * 2 ≤ _
      omega
    rintro e w2 ⟨rfl,hb⟩
    rw [show (⟨#[34]⟩ : ByteArray).data.toList = [34] from rfl,show (⟨#[34,34]⟩ : ByteArray).data.toList = [34,34] from rfl,repl_quote]
    obtain ⟨R,hR⟩ : ∃ R,s.data.toList.flatMap quoteB = R:=⟨_,rfl⟩
    rw [hR]
    have HR:=keep hR
    have HB2:=Lib.hid ((HB.out.alloc HB.out.size _).trans (hb.mono (HB.out.alloc HB.out.size _).size))
    have hRl : R.length ≤ 512:=by
      rw [← hR]
      have:=quote_len2 s.data.toList
      have hl : s.data.toList.length = s.size:=Array.length_toList
      omega
    clear hR hb hx hcell
    go_wp2
    refine bodyPost_ret (v:=.tuple #[.string (((⟨#[34]⟩ : ByteArray) ++ ⟨R.toArray⟩) ++ ⟨#[34]⟩),.int .i64 0]) (by simp [results,Tryz.results22,go_sem]) rfl ⟨?_,HB2.out⟩
    rw [← HQ.out]
    unfold quoteT quoteS
    rw [if_pos HC.out,HR.out]
    congr 3
  · have h1 : (c != 0) = true:=by simp [h]
    go_wp2
    refine bodyPost_ret (v:=.tuple #[.string ⟨#[]⟩,.int .i64 c]) (by simp [results,Tryz.results22,go_sem]) rfl ⟨?_,HB.out⟩
    rw [← HQ.out]
    unfold quoteT
    rw [if_neg (by rw [HC.out]; exact h)]
end
section
open Go.RowKit
attribute [local go_sem] Oper.semAt_some
end
end Go.Proofs.YtmalncmdfmoccaaGreatDoor
