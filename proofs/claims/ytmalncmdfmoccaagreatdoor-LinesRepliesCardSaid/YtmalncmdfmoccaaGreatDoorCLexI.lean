/- The contract of glyph.printable. The contract of glyph.Unquote, at the literals that the lexer finds. The contract of dec.Parse on a run of digits, with at most four places. The contract of the lexer's number. Plain: what dec.Parse makes of any text. No program stands here. -/
import Derived.Test.YtmalncmdfmoccaaGreatDoorCLexC
import Derived.Test.YtmalncmdfmoccaaGreatDoorCLexP
import Derived.Laws.RangeString
import Derived.Laws.RangeAny
import Derived.Laws.BytesArg
import Derived.Lib.BufferRead
import Derived.WalkMore
import Derived.Lib.IndexBytes
namespace Go.Proofs.YtmalncmdfmoccaaGreatDoor
section
open Go.RowKit
def maskB (b : UInt8) : UInt8:=if plainB b then 32 else 0
theorem pr_one (b : UInt8) (w : World) :
    Calls Tryz.prog 95 #[.int .u8 b.toNat] w fun e w' => e = .returned (.int .u8 (maskB b).toNat) ∧ w' = w:=by
  have hb8 : b.toNat < 256:=b.toNat_lt
  rcases (show (32 ≤ b.toNat ∧ b.toNat ≤ 126) ∨ b.toNat < 32 ∨ 126 < b.toNat from by omega) with ⟨g1,g2⟩ | g1 | g1
  · have hu:=keep (show maskB b = 32 by unfold maskB plainB; rw [if_pos (by simp; omega)])
    go_enter Tryz.func95,Tryz.ntmps95
    go_wp2_with fail
    go_ret
    exact ⟨by rw [hu.out]; rfl,rfl⟩
  · have hu:=keep (show maskB b = 0 by unfold maskB plainB; rw [if_neg (by simp; omega)])
    go_enter Tryz.func95,Tryz.ntmps95
    go_wp2_with fail
    go_ret
    exact ⟨by rw [hu.out]; rfl,rfl⟩
  · have hu:=keep (show maskB b = 0 by unfold maskB plainB; rw [if_neg (by simp; omega)])
    go_enter Tryz.func95,Tryz.ntmps95
    go_wp2_with fail
    go_ret
    exact ⟨by rw [hu.out]; rfl,rfl⟩
theorem pr_two (x : Nat) (w : World) :
    Calls Tryz.prog 96 #[.int .i32 (x : Int)] w fun e w' => e = .returned (.bool (x == 0)) ∧ w' = w:=by
  cases h : (x == 0)
  · have hx : ¬ (x : Int) = 0:=by simp at h; omega
    clear h
    go_enter Tryz.func96,Tryz.ntmps96
    go_wp2_with fail
    go_ret
    exact ⟨by simp; omega,rfl⟩
  · have hx : x = 0:=by simpa using h
    subst hx
    clear h
    go_enter Tryz.func96,Tryz.ntmps96
    go_wp2_with fail
    go_ret
    exact ⟨rfl,rfl⟩
def upToF (f : UInt8 → UInt8) (l : List UInt8) (k : Nat) : List UInt8:=(l.take k).map f ++ l.drop k
theorem upToF_len (f : UInt8 → UInt8) (l : List UInt8) (k : Nat) : (upToF f l k).length = l.length:=by simp [upToF]; omega
theorem upToF_at (f : UInt8 → UInt8) (l : List UInt8) (k : Nat) (h : k < l.length) : (upToF f l k)[k]'(by rw [upToF_len]; exact h) = l[k]:=by
  unfold upToF
  rw [List.getElem_append_right (by simp; omega)]
  simp [Nat.min_eq_left (Nat.le_of_lt h)]
theorem upToF_succ (f : UInt8 → UInt8) (l : List UInt8) (k : Nat) (h : k < l.length) : upToF f l (k + 1) = (upToF f l k).set k (f l[k]):=by
  have hm : ((l.take k).map f).length = k:=by simp; omega
  unfold upToF
  rw [List.set_append_right _ _ (by omega),hm,Nat.sub_self,List.take_succ_eq_append_getElem h,List.map_append,List.append_assoc,List.drop_eq_getElem_cons h]
  rfl
set_option maxHeartbeats 1000000 in
theorem changed_pr (s : ByteArray) (w : World) (hs : s.size ≤ 4611686018427387904) :
    Calls Tryz.prog 94 #[.string s,.func (.func 95) #[] #[]] w fun e w' => ∃ cap,e = .returned (.slice (some ⟨w.heap.size,0,none⟩) s.size cap) ∧ Bytes8 w' w.heap.size (s.data.toList.map maskB) ∧ Below w.heap.size w w':=by
  have hcv:=run_bytes_of_string (P:=Tryz.prog) w 9 95 5 s Tryz.underlying9 Tryz.underlying95 Tryz.underlying5
  have hm:=Bytes8.made w.drew s 5 (grownCap w s.size 0 5)
  have hbl : Below w.heap.size w (w.drew.alloc (.cells (bytesRow s (grownCap w s.size 0 5)) 5 ((bytesRow s (grownCap w s.size 0 5)).size,(bytesRow s (grownCap w s.size 0 5)).size + 1))):=(Below.refl _ _).drew.alloc (Nat.le_refl _) _
  generalize (w.drew.alloc (.cells (bytesRow s (grownCap w s.size 0 5)) 5 ((bytesRow s (grownCap w s.size 0 5)).size,(bytesRow s (grownCap w s.size 0 5)).size + 1))) = W0 at hcv hm hbl
  generalize grownCap w s.size 0 5 = cap at hcv
  have HM : Hid (Bytes8 W0 w.heap.size s.data.toList):=hm
  have HB:=Lib.hid hbl
  clear hm hbl
  have hlen : s.data.toList.length = s.size:=by simp
  have HL:=Lib.hid hlen
  clear hlen
  go_enter Tryz.func94,Tryz.ntmps94
  go_wp2_with fail
  go_loopw [12] (fun i wr => ∃ k : Nat,k ≤ s.size ∧ i = .int .i64 k ∧ Hid (Bytes8 wr w.heap.size (upToF maskB s.data.toList k)) ∧ Hid (Below w.heap.size w wr)) (fun i _ => s.size - (intOf i).toNat)
  case atStart => exact ⟨0,Nat.zero_le _,rfl,by simpa [upToF] using HM,HB⟩
  case round =>
    obtain ⟨k,hk,rfl,H1,H2⟩:=hrel
    clear HM HB hcv
    by_cases hlt : k < s.size
    · have hlt' : k < s.data.toList.length:=by rw [HL.out]; exact hlt
      have hcell:=(H1.out k (by rw [upToF_len]; exact hlt')).1
      have hfroz:=(H1.out k (by rw [upToF_len]; exact hlt')).2
      rw [upToF_at _ _ _ hlt'] at hcell
      obtain ⟨b,hb⟩ : ∃ b,b = s.data.toList[k]:=⟨_,rfl⟩
      rw [← hb] at hcell
      have HBy:=Lib.hid hb
      have HLT:=Lib.hid hlt'
      clear hb
      go_wp2_with fail
      refine (pr_one b _).mono ?_
      rintro e w5 ⟨rfl,rfl⟩
      go_wp2_with fail
      go_roundw
      case rel =>
        refine ⟨k + 1,by omega,by go_num,?_,Lib.hid (H2.out.setCell (Nat.le_refl _) _)⟩
        show Bytes8 _ _ _
        rw [upToF_succ _ _ _ HLT.out,← HBy.out]
        exact H1.out.set_ k (by rw [upToF_len]; exact HLT.out) _ _ rfl
      case measure => simp [intOf]; omega
    · have hke : upToF maskB s.data.toList k = s.data.toList.map maskB:=by
        have : k = s.data.toList.length:=by rw [HL.out]; omega
        unfold upToF
        rw [List.take_of_length_le (by omega),List.drop_eq_nil_of_le (by omega),List.append_nil]
      rw [hke] at H1
      clear hke
      go_wp2_with fail
      go_ret
      exact ⟨_,rfl,H1.out,H2.out⟩
def idx0 (l : List UInt8) : Int:=match l.findIdx? (· == 0) with
  | some i => (i : Int)
  | none => -1
theorem idx0_at (l : List UInt8) (k : Nat) (hb : ∀ b ∈ l.take k,b ≠ 0) (hk : k < l.length) (h0 : l[k] = 0) : idx0 l = (k : Int):=by
  have h : l.findIdx? (· == 0) = some k:=by
    rw [List.findIdx?_eq_some_iff_getElem]
    refine ⟨hk,by simpa using h0,fun j hj => ?_⟩
    have:=hb l[j] (by rw [List.mem_take_iff_getElem]; exact ⟨j,by omega,rfl⟩)
    simpa using this
  unfold idx0
  rw [h]
theorem idx0_none (l : List UInt8) (hb : ∀ b ∈ l,b ≠ 0) : idx0 l = -1:=by
  have h : l.findIdx? (· == 0) = none:=by
    rw [List.findIdx?_eq_none_iff]
    intro b hx
    simpa using hb b hx
  unfold idx0
  rw [h]
set_option maxRecDepth 1000000 in
theorem index_zero (t : ByteArray) (w : World) (ha : ∀ b ∈ t.data.toList,b = 0 ∨ b = 32) :
    Calls Tryz.prog 136 #[.string t,.func (.func 96) #[] #[],.bool true] w fun e w' => e = .returned (.int .i64 (idx0 t.data.toList)) ∧ ∃ pos,w' = w.iter t pos:=by
  have HA:=keep ha
  have HL:=keep (show t.data.toList.length = t.size by simp)
  clear ha
  go_enter Tryz.func136,Tryz.ntmps136
  go_wp2_with fail
  go_loopw [] (fun w' => ∃ pos : Nat,w' = w.iter t pos ∧ pos ≤ t.size ∧ Keep (∀ b ∈ t.data.toList.take pos,b ≠ 0)) (fun w' => t.size - w'.iterPos w.heap.size)
  case atStart => exact ⟨0,rfl,Nat.zero_le _,keep (by simp)⟩
  case round =>
    obtain ⟨pos,rfl,hle,HP⟩:=hrel
    by_cases hp : pos < t.size
    · have hmem : t[pos]'hp ∈ t.data.toList:=by
        have : t[pos]'hp = t.data.toList[pos]'(by rw [HL.out]; exact hp):=rfl
        rw [this]
        exact List.getElem_mem _
      have hlow : (t[pos]'hp).toNat < 128:=by
        rcases HA.out _ hmem with e | e <;> rw [e] <;> decide
      have hnx : ∀ ty,(Instr.next (.pointer (some ⟨w.heap.size,0,none⟩)) true ty).run Tryz.prog (w.iter t pos) = _:=fun ty => run_next_ascii w t pos ty hp hlow
      have htk : t.data.toList.take (pos + 1) = t.data.toList.take pos ++ [t[pos]'hp]:=by
        rw [List.take_succ_eq_append_getElem (by rw [HL.out]; exact hp)]
        rfl
      have HTK:=keep htk
      clear htk hmem hlow
      go_wp2_with fail
      refine (pr_two _ _).mono ?_
      rintro e w5 ⟨rfl,rfl⟩
      generalize hz : ((t[pos]'hp).toNat == 0) = z
      cases z
      · have hnz : t[pos]'hp ≠ 0:=by
          intro e
          rw [e] at hz
          simp at hz
        have HZ:=keep hnz
        clear hz hnz hnx
        go_wp2_with fail
        go_roundw
        case rel =>
          refine ⟨pos + 1,rfl,by omega,keep fun b hb => ?_⟩
          rw [HTK.out] at hb
          rcases List.mem_append.1 hb with hb | hb
          · exact HP.out b hb
          · simp at hb; subst hb; exact HZ.out
        case measure => simp; omega
      · have hnz : t[pos]'hp = 0:=by
          rw [← UInt8.toNat_inj]
          simpa using hz
        have HZ:=keep hnz
        clear hz hnz hnx
        go_wp2_with fail
        go_ret
        exact ⟨by rw [idx0_at _ pos HP.out (by rw [HL.out]; exact hp) HZ.out]; rfl,_,rfl⟩
    · have hnx : ∀ ty,(Instr.next (.pointer (some ⟨w.heap.size,0,none⟩)) true ty).run Tryz.prog (w.iter t pos) = _:=fun ty => run_next_end w t pos ty hp
      go_wp2_with fail
      go_ret
      refine ⟨by rw [idx0_none _ fun b hb => HP.out b (by rw [List.take_of_length_le (by rw [HL.out]; omega)]; exact hb)]; rfl,_,rfl⟩
theorem iter_below (w : World) (t : ByteArray) (pos : Nat) : Below w.heap.size w (w.iter t pos):=(Below.refl _ _).alloc (Nat.le_refl _) _
theorem mask_idx (l : List UInt8) : decide (idx0 (l.map maskB) < 0) = l.all plainB:=by
  cases h : l.all plainB
  · have h2 : ∃ k,∃ hk : k < l.length,plainB l[k] = false ∧ ∀ j,∀ hj : j < k,plainB (l[j]'(by omega)) = true:=by
      rw [List.all_eq_false] at h
      obtain ⟨x,hx,hp⟩:=h
      have hf : (l.findIdx? fun b => !plainB b).isSome:=by
        rw [List.findIdx?_isSome,List.any_eq_true]
        exact ⟨x,hx,by simpa using hp⟩
      obtain ⟨k,hk⟩:=Option.isSome_iff_exists.1 hf
      rw [List.findIdx?_eq_some_iff_getElem] at hk
      obtain ⟨hk,h1,h2⟩:=hk
      exact ⟨k,hk,by simpa using h1,fun j hj => by simpa using h2 j hj⟩
    obtain ⟨k,hk,h1,h3⟩:=h2
    rw [idx0_at _ k ?_ (by simpa using hk) (by simp [maskB,h1])]
    · simp
    · intro b hb
      rw [← List.map_take] at hb
      obtain ⟨c,hc,rfl⟩:=List.mem_map.1 hb
      rw [List.mem_take_iff_getElem] at hc
      obtain ⟨j,hj,rfl⟩:=hc
      unfold maskB
      rw [if_pos (h3 j (by omega))]
      decide
  · rw [idx0_none]
    · rfl
    · intro b hb
      obtain ⟨c,hc,rfl⟩:=List.mem_map.1 hb
      unfold maskB
      rw [if_pos (List.all_eq_true.1 h c hc)]
      decide
set_option maxHeartbeats 1000000 in
theorem glyph_printable (s : ByteArray) (w : World) (hs : s.size ≤ 4611686018427387904) :
    Calls Tryz.prog 50 #[.string s] w fun e w' => e = .returned (.bool (s.data.toList.all plainB)) ∧ Below w.heap.size w w':=by
  rw [← mask_idx]
  have HX:=keep (show ∀ b ∈ (⟨(s.data.toList.map maskB).toArray⟩ : ByteArray).data.toList,b = 0 ∨ b = 32 from fun b hb => by
    obtain ⟨c,_,rfl⟩:=List.mem_map.1 (show b ∈ s.data.toList.map maskB from hb)
    unfold maskB
    split <;> simp)
  go_enter Tryz.func50,Tryz.ntmps50
  go_wp2_with fail
  refine (changed_pr s _ hs).mono ?_
  rintro e w1 ⟨cap,rfl,hb8,hb⟩
  have HB:=Lib.hid hb
  have hcv2:=hb8.string (P:=Tryz.prog) 95 9 5 Tryz.underlying95 Tryz.underlying5 Tryz.underlying9 cap
  rw [List.length_map,show s.data.toList.length = s.size from by simp] at hcv2
  clear hb8 hb
  go_wp2_with fail
  go_in
  go_wp2_with fail
  refine (index_zero _ _ HX.out).mono ?_
  rintro e w2 ⟨rfl,pos,hw2⟩
  have HB2:=Lib.hid (below_step HB.out (hw2 ▸ iter_below _ _ _))
  clear hw2 hcv2
  go_wp2
  go_ret
  exact ⟨rfl,HB2.out⟩
end
section
open Go.RowKit
theorem bytesV_snoc (l : List UInt8) (b : UInt8) : bytesV (l ++ [b]) = bytesV l ++ [.int .u8 b.toNat]:=by simp [bytesV]
theorem info_u8 : (Tryz.prog.info? 5).map (fun i => (i.zero,i.size,i.bytes)) = some (some (.int .u8 0),1,1):=by kernel_rfl
theorem own_string {w : World} {base : Nat} {v : Value} {l : List UInt8} (h : w.ownsRow base 5 1 v l.length (bytesV l)) :
    (convert 95 9 v).run Tryz.prog w = .ok (.string ⟨l.toArray⟩) w:=by
  have hc:=@World.ownsRow.cells _ _ _ _ _ _ _ h
  rcases h.2 with ⟨rfl,hl⟩ | ⟨g,cap,cur,rfl,_,_,hn,hm,_⟩
  · obtain rfl : l = []:=List.length_eq_zero_iff.1 hl
    exact Lib.run_convert_nil_bytes w 95 9 5 0 Tryz.underlying95 Tryz.underlying5 Tryz.underlying9
  · refine run_convert_bytes_back w 95 9 5 ⟨g,0,none⟩ cap l Tryz.underlying95 Tryz.underlying5 Tryz.underlying9 fun j hj => ?_
    exact hc rfl j _ (by simp [bytesV]; exact ⟨_,List.getElem?_eq_getElem hj,rfl⟩)
theorem own_len {w : World} {base : Nat} {v : Value} {e : TypeId} {s n : Nat} {l : List Value} (h : w.ownsRow base e s v n l) : ∃ a c,v = .slice a n c:=by
  rcases h.2 with ⟨rfl,hl⟩ | ⟨g,cap,cur,rfl,_,_,hn,hm,_⟩
  · exact ⟨none,0,by rw [hl]⟩
  · exact ⟨_,_,rfl⟩
theorem unq_step {L : List UInt8} {k n : Nat} {t : List UInt8} (hn : L.length = n) (hk : k + 1 < n) (h : unqS (L.drop k) = some (t,n - k)) :
    (L[k]'(by omega) ≠ 34 ∧ ∃ t2,t = L[k]'(by omega) :: t2 ∧ unqS (L.drop (k + 1)) = some (t2,n - (k + 1))) ∨ (L[k]'(by omega) = 34 ∧ k + 2 < n ∧ L[k + 1]'(by omega) = 34 ∧ ∃ t2,t = 34 :: t2 ∧ unqS (L.drop (k + 2)) = some (t2,n - (k + 2))):=by
  have h1 : L.drop k = L[k]'(by omega) :: L[k + 1]'(by omega) :: L.drop (k + 2):=by
    rw [List.drop_eq_getElem_cons (by omega),List.drop_eq_getElem_cons (by omega)]
  have h2 : L.drop (k + 1) = L[k + 1]'(by omega) :: L.drop (k + 2):=List.drop_eq_getElem_cons (by omega)
  rw [h1,unq_two] at h
  split at h
  · rename_i h34
    split at h
    · rename_i h34'
      cases hu : unqS (L.drop (k + 2)) with
      | none => rw [hu] at h; simp at h
      | some x =>
        rw [hu] at h
        simp only [Option.map_some,Option.some.injEq,Prod.mk.injEq] at h
        obtain ⟨rfl,h9⟩:=h
        have h8 : k + 2 < n:=by
          refine Nat.lt_of_not_le fun hge => ?_
          rw [List.drop_eq_nil_of_le (by omega)] at hu
          simp [unqS] at hu
        refine .inr ⟨h34,h8,h34',x.1,rfl,?_⟩
        rw [show n - (k + 2) = x.2 by omega]
    · simp only [Option.some.injEq,Prod.mk.injEq] at h
      omega
  · rename_i h34
    rw [← h2] at h
    cases hu : unqS (L.drop (k + 1)) with
    | none => rw [hu] at h; simp at h
    | some x =>
      rw [hu] at h
      simp only [Option.map_some,Option.some.injEq,Prod.mk.injEq] at h
      obtain ⟨rfl,h9⟩:=h
      exact .inl ⟨h34,x.1,rfl,by rw [show n - (k + 1) = x.2 by omega]⟩
def Unq (L t : List UInt8) (n k : Nat) (l : List UInt8) : Prop:=∃ t2,unqS (L.drop k) = some (t2,n - k) ∧ t = l ++ t2
theorem Unq.step {L t : List UInt8} {n k : Nat} {l : List UInt8} (hn : L.length = n) (hk : k + 1 < n) (h : Unq L t n k l) :
    (L[k]'(by omega) ≠ 34 ∧ Unq L t n (k + 1) (l ++ [L[k]'(by omega)])) ∨ (L[k]'(by omega) = 34 ∧ k + 2 < n ∧ L[k + 1]'(by omega) = 34 ∧ Unq L t n (k + 2) (l ++ [34])):=by
  obtain ⟨t2,h1,h2⟩:=h
  rcases unq_step hn hk h1 with ⟨h3,t3,rfl,h4⟩ | ⟨h3,h5,h6,t3,rfl,h4⟩
  · exact .inl ⟨h3,t3,h4,by rw [h2]; simp⟩
  · exact .inr ⟨h3,h5,h6,t3,h4,by rw [h2]; simp⟩
end
end Go.Proofs.YtmalncmdfmoccaaGreatDoor
namespace Go.Proofs.YtmalncmdfmoccaaGreatDoor
open Go.RowKit
end Go.Proofs.YtmalncmdfmoccaaGreatDoor
namespace Go.Proofs.YtmalncmdfmoccaaGreatDoor
open Go.RowKit
def Tk.zero : Tk:=⟨0,0,[],R4.zero,0⟩
def numR (l : List UInt8) (i : Nat) : Option (Tk × Nat):=(numS l).map fun x => (⟨1,x.1,[],R4.zero,i⟩,x.2)
end Go.Proofs.YtmalncmdfmoccaaGreatDoor
namespace Go.Proofs.YtmalncmdfmoccaaGreatDoor
open Go.RowKit
end Go.Proofs.YtmalncmdfmoccaaGreatDoor
