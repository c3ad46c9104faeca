/- The contracts of the lexer's fail and sign. The contract of the lexer's word. The contract of lex.Tokens. Contracts of the reference's tests of bytes, and of the end of a word. The contract of the reference's Upper. Contracts of the reference lexer's number and text. Contracts of the reference lexer's text, address and begins. Contracts of Parse, package rect's and the reference's, and of the reference's Format. -/
import Derived.Test.YtmalncmdfmoccaaGreatDoorCLexI
import Derived.Test.YtmalncmdfmoccaaGreatDoorCLexO
import Derived.Test.YtmalncmdfmoccaaGreatDoorCLexP
import Derived.Test.YtmalncmdfmoccaaGreatDoorCVal
import Derived.Lib.Strings
import Derived.Laws.Strings3
import Derived.Deep.DeepCutAuto
import Derived.Test.YtmalncmdfmoccaaGreatDoorCAddrW2
import Derived.Deep.LoopGhost
import Derived.WalkMore
import Derived.Test.YtmalncmdfmoccaaGreatDoorCLexC
import Derived.Test.YtmalncmdfmoccaaGreatDoorCOk
import Derived.Test.YtmalncmdfmoccaaGreatDoorCGrpR
import Derived.Test.YtmalncmdfmoccaaGreatDoorCShelf
namespace Go.Proofs.YtmalncmdfmoccaaGreatDoor
open Go.RowKit
def errR (l : List UInt8) (i : Nat) : Option (Tk × Nat):=(errS l).map fun x => (⟨4,x.1,[],R4.zero,i⟩,x.2)
def signR (l : List UInt8) (i : Nat) : Option (Tk × Nat):=(opS l).map fun x => (⟨x.1,x.2.1,[],R4.zero,i⟩,x.2.2)
def pre (x l : List UInt8) : Prop:=l.take x.length = x
instance (x l : List UInt8) : Decidable (pre x l):=inferInstanceAs (Decidable (l.take x.length = x))
end Go.Proofs.YtmalncmdfmoccaaGreatDoor
namespace Go.Proofs.YtmalncmdfmoccaaGreatDoor
section
open Go.RowKit
theorem rect_One (c r : Int) (w : World) :
    Calls Tryz.prog 60 #[.agg #[.int .i64 c,.int .i64 r]] w fun e w' => e = .returned (.agg #[.int .i64 c,.int .i64 r,.int .i64 c,.int .i64 r]) ∧ Below w.heap.size w w':=by
  go_enter Tryz.func60,Tryz.ntmps60
  go_wp2
  refine bodyPost_ret (v:=.agg #[.int .i64 c,.int .i64 r,.int .i64 c,.int .i64 r]) (by simp [results,Tryz.results60,go_sem]) rfl ⟨rfl,?_⟩
  first
    | exact ((Below.refl _ _).alloc (Nat.le_refl _) _)
    | exact (((Below.refl _ _).alloc (Nat.le_refl _) _).alloc (by simp) _)
    | exact ((((((((Below.refl _ _).alloc (Nat.le_refl _) _).alloc (by simp) _)).setCell (by simp) _).setCell (by simp) _).setCell (by simp) _).setCell (by simp) _)
def wordR (l : List UInt8) (i : Nat) : Option (Tk × Nat):=if l.head?.any isLet then wordS l i else none
section
variable {l u d : List UInt8} {i n : Nat} {a : Int × Int × Int}
structure Wd (l u d : List UInt8) (n : Nat) (a : Int × Int × Int) : Prop where
  hd : l.head?.any isLet = true
  hu : (l.takeWhile isWrd).map upB = u
  hdd : l.dropWhile isWrd = d
  hn : (l.takeWhile isWrd).length = n
  ha : parseS u = a
theorem Wd.name (h : Wd l u d n a) (h1 : d.head? = some 40) : wordR l i = some (⟨7,0,u,R4.zero,i⟩,n):=by
  unfold wordR wordS
  rw [if_pos h.hd]
  simp only [h.hu,h.hdd,h.hn]
  rw [if_pos h1]
theorem Wd.yes (h : Wd l u d n a) (h1 : d.head? ≠ some 40) (h2 : u = trueB) : wordR l i = some (⟨3,1,[],R4.zero,i⟩,n):=by
  unfold wordR wordS
  rw [if_pos h.hd]
  simp only [h.hu,h.hdd,h.hn]
  rw [if_neg h1,if_pos h2]
theorem Wd.no (h : Wd l u d n a) (h1 : d.head? ≠ some 40) (h2 : u ≠ trueB) (h3 : u = falseB) : wordR l i = some (⟨3,0,[],R4.zero,i⟩,n):=by
  unfold wordR wordS
  rw [if_pos h.hd]
  simp only [h.hu,h.hdd,h.hn]
  rw [if_neg h1,if_neg h2,if_pos h3]
theorem Wd.bad (h : Wd l u d n a) (h1 : d.head? ≠ some 40) (h2 : u ≠ trueB) (h3 : u ≠ falseB) (h4 : a.2.2 ≠ 0) : wordR l i = none:=by
  unfold wordR wordS
  rw [if_pos h.hd]
  simp only [h.hu,h.hdd,h.hn,h.ha]
  rw [if_neg h1,if_neg h2,if_neg h3,if_pos h4]
theorem Wd.one (h : Wd l u d n a) (h1 : d.head? ≠ some 40) (h2 : u ≠ trueB) (h3 : u ≠ falseB) (h4 : a.2.2 = 0) (h5 : secondS d = none) : wordR l i = some (⟨5,0,[],⟨a.1,a.2.1,a.1,a.2.1⟩,i⟩,n):=by
  unfold wordR wordS
  rw [if_pos h.hd]
  simp only [h.hu,h.hdd,h.hn,h.ha,h5]
  rw [if_neg h1,if_neg h2,if_neg h3,if_neg (by rw [h4]; simp)]
  unfold rectS
  simp
theorem Wd.two (h : Wd l u d n a) {c r : Int} {m : Nat} (h1 : d.head? ≠ some 40) (h2 : u ≠ trueB) (h3 : u ≠ falseB) (h4 : a.2.2 = 0) (h5 : secondS d = some (c,r,m)) :
    wordR l i = some (⟨if a.1 = c ∧ a.2.1 = r then 5 else 6,0,[],rectS (a.1,a.2.1) (c,r),i⟩,n + 1 + m):=by
  unfold wordR wordS
  rw [if_pos h.hd]
  simp only [h.hu,h.hdd,h.hn,h.ha,h5]
  rw [if_neg h1,if_neg h2,if_neg h3,if_neg (by rw [h4]; simp)]
end
theorem byte_int {b : UInt8} {k : Nat} (h : b ≠ UInt8.ofNat k) (hk : k < 256:=by decide) : ¬ ((b.toNat : Int) = (k : Int)):=by
  intro e
  apply h
  rw [← UInt8.toNat_inj,UInt8.toNat_ofNat']
  omega
end
section
open Go.RowKit
def tkRow (t : Tk) : List Value:=[.int .u8 t.kind,.int .i64 t.num,.string ⟨t.text.toArray⟩,.int .i64 t.r.c1,.int .i64 t.r.r1,.int .i64 t.r.c2,.int .i64 t.r.r2,.int .i64 (t.at_ : Nat)]
def Tks (S : List UInt8) (k : Nat) (l : List Tk) : Prop:=∃ f,S.length - k ≤ f ∧ toksF S.length 0 S = (toksF f k (S.drop k)).map (l ++ ·)
theorem Tks.start (S : List UInt8) : Tks S 0 []:=⟨S.length,by omega,by
  rw [List.drop_zero]
  cases toksF S.length 0 S with
  | error e => rfl
  | ok x => rfl⟩
theorem Tks.fuel {S : List UInt8} {k : Nat} {l : List Tk} (h : Tks S k l) (hk : k < S.length) : ∃ f,S.length - (k + 1) ≤ f ∧ toksF S.length 0 S = (toksF (f + 1) k (S[k] :: S.drop (k + 1))).map (l ++ ·):=by
  obtain ⟨f,h1,h2⟩:=h
  obtain ⟨g,rfl⟩ : ∃ g,f = g + 1:=⟨f - 1,by omega⟩
  exact ⟨g,by omega,by rw [h2,List.drop_eq_getElem_cons hk]⟩
theorem Tks.blank {S : List UInt8} {k : Nat} {l : List Tk} (h : Tks S k l) (hk : k < S.length) (h1 : S[k] = 32) : Tks S (k + 1) l:=by
  obtain ⟨f,h2,h3⟩:=h.fuel hk
  refine ⟨f,h2,?_⟩
  rw [h3,toksF,if_pos h1]
theorem Tks.tok {S : List UInt8} {k n : Nat} {l : List Tk} {t : Tk} (h : Tks S k l) (hk : k < S.length) (h1 : S[k] ≠ 32) (ht : tokS k (S.drop k) = some (t,n)) : Tks S (k + n) (l ++ [t]):=by
  obtain ⟨f,h2,h3⟩:=h.fuel hk
  have hn:=(tok_le ht).1
  refine ⟨f,by omega,?_⟩
  rw [← List.drop_eq_getElem_cons hk] at h3
  rw [h3]
  have hd:=List.drop_eq_getElem_cons hk
  rw [hd,toksF,if_neg h1,← hd,ht]
  simp only [List.drop_drop]
  cases toksF f (k + n) (S.drop (k + n)) with
  | error e => rfl
  | ok x => simp [Except.map]
theorem Tks.bad {S : List UInt8} {k : Nat} {l : List Tk} (h : Tks S k l) (hk : k < S.length) (h1 : S[k] ≠ 32) (ht : tokS k (S.drop k) = none) : toksF S.length 0 S = .error k:=by
  obtain ⟨f,h2,h3⟩:=h.fuel hk
  rw [h3]
  have hd:=List.drop_eq_getElem_cons hk
  rw [toksF,if_neg h1,← hd,ht]
  rfl
theorem Tks.done {S : List UInt8} {l : List Tk} (h : Tks S S.length l) : toksF S.length 0 S = .ok l:=by
  obtain ⟨f,h2,h3⟩:=h
  rw [h3,List.drop_eq_nil_of_le (Nat.le_refl _)]
  cases f with
  | zero => simp [toksF,Except.map]
  | succ f => simp [toksF,Except.map]
end
end Go.Proofs.YtmalncmdfmoccaaGreatDoor
namespace Go.Proofs.YtmalncmdfmoccaaGreatDoor
section
open Go.RowKit
end
section
open Go.RowKit
end
section
open Go.RowKit
end
section
open Go.RowKit
def Look (s : ByteArray) (a k : Nat) (t : List UInt8) : Prop:=unqS (s.data.toList.drop a) = (unqS (s.data.toList.drop k)).map fun p => (t ++ p.1,p.2 + (k - a))
theorem Look.start (s : ByteArray) (a : Nat) : Look s a a []:=by
  unfold Look
  simp
theorem Look.step {s : ByteArray} {a k : Nat} {t : List UInt8} (h : Look s a k t) (ha : a ≤ k) (hk : k < s.size) (h1 : s[k]'hk ≠ 34) : Look s a (k + 1) (t ++ [s[k]'hk]):=by
  have hsl : s.data.toList.length = s.size:=by rw [Array.length_toList]; rfl
  have hd : s.data.toList.drop k = s[k]'hk :: s.data.toList.drop (k + 1):=List.drop_eq_getElem_cons (by omega)
  unfold Look at h ⊢
  rw [h,hd]
  cases hr : s.data.toList.drop (k + 1) with
  | nil => rw [unq_one,if_neg h1]; rfl
  | cons c r =>
    rw [unq_two,if_neg h1]
    cases unqS (c :: r) with
    | none => rfl
    | some y => simp; omega
theorem Look.pair {s : ByteArray} {a k : Nat} {t : List UInt8} (h : Look s a k t) (ha : a ≤ k) (hk : k + 1 < s.size) (h1 : s[k]'(by omega) = 34) (h2 : s[k + 1]'hk = 34) : Look s a (k + 2) (t ++ [34]):=by
  have hsl : s.data.toList.length = s.size:=by rw [Array.length_toList]; rfl
  have hd : s.data.toList.drop k = s[k]'(by omega) :: s[k + 1]'hk :: s.data.toList.drop (k + 2):=by
    rw [List.drop_eq_getElem_cons (by omega),List.drop_eq_getElem_cons (by omega)]
    rfl
  unfold Look at h ⊢
  rw [h,hd,unq_two,if_pos h1,if_pos h2]
  cases unqS (s.data.toList.drop (k + 2)) with
  | none => rfl
  | some y => simp; omega
theorem Look.last {s : ByteArray} {a k : Nat} {t : List UInt8} (h : Look s a k t) (ha : a ≤ k) (hk : k < s.size) (h1 : s[k]'hk = 34) (h2 : ∀ h : k + 1 < s.size,s[k + 1]'h ≠ 34) : unqS (s.data.toList.drop a) = some (t,k + 1 - a):=by
  have hsl : s.data.toList.length = s.size:=by rw [Array.length_toList]; rfl
  have hu : unqS (s.data.toList.drop k) = some ([],1):=by
    have hd : s.data.toList.drop k = s[k]'hk :: s.data.toList.drop (k + 1):=List.drop_eq_getElem_cons (by omega)
    rw [hd]
    by_cases hk1 : k + 1 < s.size
    · have hd2 : s.data.toList.drop (k + 1) = s[k + 1]'hk1 :: s.data.toList.drop (k + 2):=List.drop_eq_getElem_cons (by omega)
      rw [hd2,unq_two,if_pos h1,if_neg (h2 hk1)]
    · rw [List.drop_eq_nil_of_le (by omega),unq_one,if_pos h1]
  unfold Look at h
  rw [h,hu]
  simp; omega
theorem Look.out {s : ByteArray} {a : Nat} {t : List UInt8} (h : Look s a s.size t) : unqS (s.data.toList.drop a) = none:=by
  have hsl : s.data.toList.length = s.size:=by rw [Array.length_toList]; rfl
  unfold Look at h
  rw [h,List.drop_eq_nil_of_le (by omega)]
  rfl
end
end Go.Proofs.YtmalncmdfmoccaaGreatDoor
namespace Go.Proofs.YtmalncmdfmoccaaGreatDoor
open Go.RowKit
def fromS (l : List UInt8) : List UInt8:=(Lib.cut l [58]).1
def toS (l : List UInt8) : List UInt8:=if (Lib.cut l [58]).2.2 = true then (Lib.cut l [58]).2.1 else (Lib.cut l [58]).1
def parseAB (a b : Int × Int × Int) : R4 × Int :=
  if a.2.2 = 4 ∨ b.2.2 = 4 then (R4.zero,4) else if a.2.2 ≠ 0 ∨ b.2.2 ≠ 0 then (R4.zero,3) else (⟨min a.1 b.1,min a.2.1 b.2.1,max a.1 b.1,max a.2.1 b.2.1⟩,0)
def parseR (l : List UInt8) : R4 × Int:=parseAB (parseS (fromS l)) (parseS (toS l))
theorem fmtL_two (r : R4) (hv : checkB r = true) (h : ¬ (r.c1 = r.c2 ∧ r.r1 = r.r2)) : fmtL r = (formatS r.c1 r.r1).1 ++ (58 :: (formatS r.c2 r.r2).1) ∧ (formatS r.c1 r.r1).1 ≠ (formatS r.c2 r.r2).1:=by
  obtain ⟨a1,a2,a3,a4⟩:=r
  obtain ⟨h1,h2⟩:=check_valid hv
  refine ⟨by unfold fmtL; rw [if_neg h],fun e => h ?_⟩
  have:=format_inj h1 h2 e
  exact this
theorem fmtL_one (r : R4) (h : r.c1 = r.c2 ∧ r.r1 = r.r2) : fmtL r = (formatS r.c1 r.r1).1:=by unfold fmtL; rw [if_pos h,List.append_nil]
set_option maxRecDepth 100000 in
set_option maxHeartbeats 4000000 in
theorem ref3_Format (a1 a2 a3 a4 : Int) (w : World) :
    Calls Tryz.prog 109 #[.agg #[.int .i64 a1,.int .i64 a2,.int .i64 a3,.int .i64 a4]] w fun e w' => e = .returned (.tuple #[.string ⟨(fmtR ⟨a1,a2,a3,a4⟩).1.toArray⟩,.int .i64 (fmtR ⟨a1,a2,a3,a4⟩).2]) ∧ Below w.heap.size w w':=by
  have H1:=Lib.hid ((Ok.start w).alloc w.heap.size 49 [.int .i64 a1,.int .i64 a2,.int .i64 a3,.int .i64 a4] rfl)
  go_enter Tryz.func109,Tryz.ntmps109
  go_wp2_with fail
  generalize (w.alloc (.cells #[.int .i64 a1,.int .i64 a2,.int .i64 a3,.int .i64 a4] 49)) = W2 at H1 ⊢
  cases ha : checkB ⟨a1,a2,a3,a4⟩
  · refine (ref_Check _ _ _ _ _).mono ?_
    rintro e w3 ⟨rfl,hb4⟩
    rw [checkE_no ha]
    have H5:=Lib.hid (H1.out.below hb4)
    clear hb4 H1
    have F6:=H5.out.sees
    simp only [sees,kBlk,cellsAt,Nat.reduceAdd] at F6
    obtain ⟨⟨z0,c0_0,c0_1,c0_2,c0_3,-⟩,-⟩:=F6
    have HA:=Lib.hid (fmtR_no ha)
    clear ha
    go_wp2_with fail
    go_ret2
    exact ⟨by rw [HA.out]; rfl,H5.out.bel⟩
  · refine (ref_Check _ _ _ _ _).mono ?_
    rintro e w3 ⟨rfl,hb4⟩
    rw [checkE_yes ha]
    have H5:=Lib.hid (H1.out.below hb4)
    clear hb4 H1
    have F6:=H5.out.sees
    simp only [sees,kBlk,cellsAt,Nat.reduceAdd] at F6
    obtain ⟨⟨z0,c0_0,c0_1,c0_2,c0_3,-⟩,-⟩:=F6
    have HA:=Lib.hid (fmtR_yes ha)
    have hv:=Lib.hid ha
    clear ha
    go_wp2_with fail
    refine (ref_From _ _ _ _ _).mono ?_
    rintro e w7 ⟨rfl,hb8⟩
    clear z0 c0_0 c0_1 c0_2 c0_3
    have H9:=Lib.hid (H5.out.below hb8)
    clear hb8 H5
    have F10:=H9.out.sees
    simp only [sees,kBlk,cellsAt,Nat.reduceAdd] at F10
    obtain ⟨⟨z0,c0_0,c0_1,c0_2,c0_3,-⟩,-⟩:=F10
    go_wp2_with fail
    refine (ref_Format _ _ _).mono ?_
    rintro e w11 ⟨rfl,hb12⟩
    clear z0 c0_0 c0_1 c0_2 c0_3
    have H13:=Lib.hid (H9.out.below hb12)
    clear hb12 H9
    have F14:=H13.out.sees
    simp only [sees,kBlk,cellsAt,Nat.reduceAdd] at F14
    obtain ⟨⟨z0,c0_0,c0_1,c0_2,c0_3,-⟩,-⟩:=F14
    go_wp2_with fail
    refine (ref_To _ _ _ _ _).mono ?_
    rintro e w15 ⟨rfl,hb16⟩
    clear z0 c0_0 c0_1 c0_2 c0_3
    have H17:=Lib.hid (H13.out.below hb16)
    clear hb16 H13
    have F18:=H17.out.sees
    simp only [sees,kBlk,cellsAt,Nat.reduceAdd] at F18
    obtain ⟨⟨z0,c0_0,c0_1,c0_2,c0_3,-⟩,-⟩:=F18
    go_wp2_with fail
    refine (ref_Format _ _ _).mono ?_
    rintro e w19 ⟨rfl,hb20⟩
    clear z0 c0_0 c0_1 c0_2 c0_3
    have H21:=Lib.hid (H17.out.below hb20)
    clear hb20 H17
    have F22:=H21.out.sees
    simp only [sees,kBlk,cellsAt,Nat.reduceAdd] at F22
    obtain ⟨⟨z0,c0_0,c0_1,c0_2,c0_3,-⟩,-⟩:=F22
    by_cases he : a1 = a3 ∧ a2 = a4
    · have hf:=fmtL_one ⟨a1,a2,a3,a4⟩ he
      obtain ⟨rfl,rfl⟩:=he
      have HF:=Lib.hid hf
      clear hf
      generalize (formatS a1 a2).1 = S at HF ⊢
      go_wp2_with fail
      go_ret2
      exact ⟨by rw [HA.out,HF.out]; rfl,H21.out.bel⟩
    · obtain ⟨hf,hne⟩:=fmtL_two ⟨a1,a2,a3,a4⟩ hv.out he
      have HF:=Lib.hid hf
      clear hf he hv
      have l1:=format_len a1 a2
      have l2:=format_len a3 a4
      simp only [] at hne
      generalize (formatS a1 a2).1 = S at HF hne l1 ⊢
      generalize (formatS a3 a4).1 = U at HF hne l2 ⊢
      have hsu : (S == U) = false:=by simpa using hne
      clear hne
      go_wp2_with fail
      go_ret2
      exact ⟨by rw [HA.out,HF.out]; simp [bytes_append],H21.out.bel⟩
end Go.Proofs.YtmalncmdfmoccaaGreatDoor
