/- The contract of the method that reads a range off a line. -/
import Derived.Test.YtjbimcdofenmdaaGreatDoorMOpF
namespace Go.Proofs.YtjbimcdofenmdaaGreatDoor
open Go.RowKit
theorem Split44 (l : List UInt8) (w : World) (hs : l.length < 4294967281) (he : Env6 w) :
  Calls Tryz.prog 91 #[.string ⟨l.toArray⟩,.string ⟨#[44]⟩] w fun e w' => e = .returned (.slice (some ⟨w.heap.size,0,none⟩) (Lib.split l [44]).length (Lib.split l [44]).length) ∧ w' = w.alloc (.cells (strsV (Lib.split l [44])).toArray 9):=by
 obtain ⟨m,hm⟩:=he.2.2.1
 have hw0:=Lib.splitB_data ⟨#[44]⟩ 0 (Lib.countB ⟨l.toArray⟩ ⟨#[44]⟩) ⟨l.toArray⟩
 have hw1:=Lib.splitB_all ⟨#[44]⟩ (by decide) 0 _ ⟨l.toArray⟩ rfl
 have hw2 : (Lib.splitB ⟨#[44]⟩ 0 (Lib.countB ⟨l.toArray⟩ ⟨#[44]⟩) ⟨l.toArray⟩).map (·.data.toList) = Lib.split l [44]:=by rw [hw0]; rfl
 have hlen : (Lib.split l [44]).length = Lib.countB ⟨l.toArray⟩ ⟨#[44]⟩ + 1:=by rw [← hw2,List.length_map,hw1]
 have hval : (Lib.splitB ⟨#[44]⟩ 0 (Lib.countB ⟨l.toArray⟩ ⟨#[44]⟩) ⟨l.toArray⟩).map Value.string = strsV (Lib.split l [44]):=by
  rw [← hw2]; unfold strsV; rw [List.map_map]; rfl
 refine (Tryz.strings_Split ⟨l.toArray⟩ ⟨#[44]⟩ m w hs hm (by decide)).mono ?_
 rintro e w' ⟨rfl,rfl⟩
 rw [hlen,hval]; exact ⟨rfl,rfl⟩
theorem split_le44 (l : List UInt8) : ∀ x ∈ Lib.split l [44],x.length ≤ l.length:=splitK_le [44] _ l
section
variable {w0 w w' : World} {ps : List Pers} {lb rb : Nat} {l : List UInt8} {t : TypeId} {cs : List Value} {x : Pers}
theorem Ln.lt (h : Ln w0 ps lb l w) : lb < w.heap.size:=h.2.2.2.sees.1.1.1
theorem Ln.tail (h : Ln w0 (x :: ps) lb l w) : Ln w0 ps lb l w:=⟨h.1,fun y hy => h.2.1 y (List.mem_cons_of_mem _ hy),h.2.2.1,h.2.2.2.drop _ (by intro y hy; simp at hy ⊢; rcases hy with h | h <;> simp [h])⟩
theorem Ln.var (h : Ln w0 ps lb l w) (t : TypeId) (cs : List Value) : Ln w0 (kVar w.heap.size t cs :: ps) lb l (w.alloc (.cells cs.toArray t)):=by
 have hlt:=h.lt
 obtain ⟨h1,h2,h3,h4⟩:=h
 refine ⟨h1,fun x hx => ?_,h3,(h4.var w.heap.size t cs rfl).drop _ (by intro y hy; simp at hy ⊢; rcases hy with h | h | h <;> simp [h])⟩
 rcases List.mem_cons.1 hx with rfl | hx
 ·show some w.heap.size ≠ some lb
  simp; omega
 ·exact h2 x hx
theorem Ln.blk (h : Ln w0 ps lb l w) (t : TypeId) (cs : List Value) : Ln w0 (kBlk w.heap.size t cs :: ps) lb l (w.alloc (.cells cs.toArray t)):=by
 have hlt:=h.lt
 obtain ⟨h1,h2,h3,h4⟩:=h
 refine ⟨h1,fun x hx => ?_,h3,(h4.alloc w.heap.size t cs rfl).drop _ (by intro y hy; simp at hy ⊢; rcases hy with h | h | h <;> simp [h])⟩
 rcases List.mem_cons.1 hx with rfl | hx
 ·show some w.heap.size ≠ some lb
  simp; omega
 ·exact h2 x hx
theorem Ln.put (h : Ln w0 (kVar rb t cs :: ps) lb l w) (i : Nat) (u : Value) (hb : w0.heap.size ≤ rb) (hf : ∀ x ∈ ps,x.far (some rb)) : Ln w0 (kVar rb t (cs.set i u) :: ps) lb l (w.setCell ⟨rb,i,none⟩ u):=by
 obtain ⟨h1,h2,h3,h4⟩:=h
 have hne : some rb ≠ some lb:=h2 (kVar rb t cs) (List.mem_cons_self ..)
 have h5 : Ok w0 (kVar rb t cs :: kVar lb 87 [.string ⟨l.toArray⟩] :: ps) w:=h4.drop _ (by intro y hy; simp at hy ⊢; rcases hy with h | h | h <;> simp [h])
 have h6:=h5.set_ (i:=i) (u:=u) hb (fun x hx => by
  rcases List.mem_cons.1 hx with rfl | hx
  ·exact fun e => hne e.symm
  ·exact hf x hx)
 refine ⟨h1,fun x hx => ?_,h3,h6.drop _ (by intro y hy; simp at hy ⊢; rcases hy with h | h | h <;> simp [h])⟩
 rcases List.mem_cons.1 hx with rfl | hx
 ·exact hne
 ·exact h2 x (List.mem_cons_of_mem _ hx)
theorem Ln.new (h : Ln w0 ps lb l w) : ∀ x ∈ ps,x.far (some w.heap.size):=fun x hx => x.new _ _ (Nat.le_refl _) (h.2.2.2.all x (List.mem_cons_of_mem _ hx))
end
def arrV (vs : List Int) : List Value:=(vs ++ List.replicate (4 - vs.length) 0).map fun v => .int .i64 v
def RangeOut (o : Option R4) (w0 : World) (ps : List Pers) (lb : Nat) (l : List UInt8) (e : Ending) (w' : World) : Prop:=match o with
 | some r => Took (.agg #[.int .i64 r.c1,.int .i64 r.r1,.int .i64 r.c2,.int .i64 r.r2]) w0 ps lb l e w'
 | none => FaultAt w0 e w'
set_option maxRecDepth 100000 in
set_option maxHeartbeats 8000000 in
theorem l_ranged (w0 : World) (ps : List Pers) (lb : Nat) (l : List UInt8) (w : World) (h : Ln w0 ps lb l w) (he : Env6 w0) :
  Calls Tryz.prog 61 #[.pointer (some ⟨lb,0,none⟩)] w (RangeOut (rangeP (fstW l)) w0 ps lb (sndW l)):=by
 have HN:=keep h.new
 have HV:=Lib.hid (h.var 23 [.int .i64 0,.int .i64 0,.int .i64 0,.int .i64 0])
 have HE:=keep he
 have HLE:=keep (Nat.le_trans (fst_len l) h.2.2.1)
 have hrb : w0.heap.size ≤ w.heap.size:=h.bel.size
 clear h he
 obtain ⟨o,ho⟩ : ∃ o,rangeP (fstW l) = o:=⟨_,rfl⟩
 rw [ho]
 have HO:=keep ho
 clear ho
 obtain ⟨R,hR⟩ : ∃ R,RangeOut o w0 ps lb (sndW l) = R:=⟨_,rfl⟩
 rw [hR]
 go_enter Tryz.func61,Tryz.ntmps61
 go_wp2_with fail
 generalize (w.alloc (.cells #[.int .i64 0,.int .i64 0,.int .i64 0,.int .i64 0] 23)) = W1 at HV ⊢
 obtain ⟨rb,hrbe⟩ : ∃ rb,w.heap.size = rb:=⟨_,rfl⟩
 rw [hrbe] at HV HN hrb ⊢
 clear hrbe
 refine (l_word w0 _ lb l _ HV.out HE.out).mono ?_
 rintro e w2 ⟨rfl,h1⟩
 have H1:=Lib.hid h1
 clear h1 HV
 obtain ⟨m,hm⟩:=(HE.out.below H1.out.bel).2.2.1
 have HM:=keep hm
 clear hm
 go_wp2_with fail
 refine (rect_Parse_l (fstW l) m _ (Nat.lt_of_le_of_lt HLE.out (by decide)) HM.out).mono ?_
 rintro e w3 ⟨rfl,hb⟩
 have H2:=Lib.hid (H1.out.below hb)
 clear hb H1 HM
 obtain ⟨P,hP⟩ : ∃ P,parseR (fstW l) = P:=⟨_,rfl⟩
 rw [hP]
 have HP:=keep hP
 clear hP
 obtain ⟨⟨p1,p2,p3,p4⟩,pe⟩:=P
 dsimp only
 go_upto_region 3 with fail
 have H3:=Lib.hid (H2.out.blk 23 [.int .i64 p1,.int .i64 p2,.int .i64 p3,.int .i64 p4])
 clear H2
 generalize (w3.alloc (.cells #[.int .i64 p1,.int .i64 p2,.int .i64 p3,.int .i64 p4] 23)) = W4 at H3 ⊢
 obtain ⟨tb,htb⟩ : ∃ tb,w3.heap.size = tb:=⟨_,rfl⟩
 rw [htb] at H3 ⊢
 clear htb
 have F:=H3.out.2.2.2.sees
 simp only [sees,kVar,kBlk,cellsAt,Nat.reduceAdd] at F
 obtain ⟨-,⟨zt,t0,t1,t2,t3,-⟩,⟨⟨zr,fr⟩,r0,r1,r2,r3,-⟩,-⟩:=F
 by_cases hpe : pe = 0
 ·subst hpe
  have ho : o = some ⟨p1,p2,p3,p4⟩:=by rw [← HO.out]; unfold rangeP; rw [HP.out,if_pos rfl]
  subst ho
  have H4:=Lib.hid (H3.out.tail)
  clear H3
  have HF:=Lib.hid (show Ln w0 (kVar rb 23 [.int .i64 p1,.int .i64 p2,.int .i64 p3,.int .i64 p4] :: ps) lb (sndW l) _ from (((H4.out.put 0 (.int .i64 p1) hrb HN.out).put 1 (.int .i64 p2) hrb HN.out).put 2 (.int .i64 p3) hrb HN.out).put 3 (.int .i64 p4) hrb HN.out)
  go_wp2_with fail
  have F:=HF.out.2.2.2.sees
  simp only [sees,kVar,cellsAt,Nat.reduceAdd] at F
  obtain ⟨-,⟨-,q0,q1,q2,q3,-⟩,-⟩:=F
  have HT:=Lib.hid HF.out.tail
  refine bodyPost_ret (v:=.agg #[.int .i64 p1,.int .i64 p2,.int .i64 p3,.int .i64 p4]) (by simp [results,Tryz.results61,go_sem,q0,q1,q2,q3]) rfl ?_
  subst hR
  exact ⟨rfl,HT.out⟩
 ·have hpb : (pe == 0) = false:=by simpa using hpe
  have HC:=keep (show commaP (Lib.split (fstW l) [44]) = o by rw [← HO.out]; unfold rangeP; rw [HP.out,if_neg hpe])
  clear HP HO hpe zt t0 t1 t2 t3 zr fr r0 r1 r2 r3
  go_wp2_with fail
  refine (Split44 (fstW l) _ (Nat.lt_of_le_of_lt HLE.out (by decide)) (HE.out.below H3.out.bel)).mono ?_
  rintro e w5 ⟨rfl,rfl⟩
  have HSL:=keep (split_le44 (fstW l))
  obtain ⟨p,hp⟩ : ∃ p,Lib.split (fstW l) [44] = p:=⟨_,rfl⟩
  rw [hp] at HC HSL ⊢
  clear hp
  have H4:=Lib.hid (H3.out.tail.blk 9 (strsV p))
  clear H3
  generalize (W4.alloc (.cells (strsV p).toArray 9)) = W5 at H4 ⊢
  obtain ⟨pb,hpbe⟩ : ∃ pb,W4.heap.size = pb:=⟨_,rfl⟩
  rw [hpbe] at H4 ⊢
  clear hpbe
  by_cases hp4 : p.length = 4
  case neg =>
   have ho : o = none:=by
    rw [← HC.out]
    unfold commaP
    split
    ·exact absurd rfl hp4
    ·rfl
   subst ho
   have hb4 : ((p.length : Int) == 4) = false:=by simp; omega
   go_wp2_with fail
   refine (op_must_no w0 _ H4.out.bel).mono ?_
   rintro e w6 ⟨rfl,hb6⟩
   have HB:=Lib.hid hb6
   clear hb6
   go_wp2_with fail
   subst hR
   exact ⟨rfl,rfl,HB.out⟩
  obtain ⟨a,b,c,d,rfl⟩ : ∃ a b c d,p = [a,b,c,d]:=by
   match p,hp4 with
   | [a,b,c,d],_ => exact ⟨a,b,c,d,rfl⟩
  clear hp4
  have HA:=keep (Nat.le_trans (HSL.out a (by simp)) HLE.out)
  have HB:=keep (Nat.le_trans (HSL.out b (by simp)) HLE.out)
  have HCC:=keep (Nat.le_trans (HSL.out c (by simp)) HLE.out)
  have HD:=keep (Nat.le_trans (HSL.out d (by simp)) HLE.out)
  clear HSL
  simp only [List.length_cons,List.length_nil,Nat.zero_add,Nat.reduceAdd]
  go_wp2_with fail
  refine (op_must_yes _).mono ?_
  rintro e w6 ⟨rfl,hw⟩
  obtain rfl : W5 = w6:=hw.symm
  have H5:=Lib.hid (H4.out.var 119 [.int .i64 0,.int .i64 0,.int .i64 0,.int .i64 0])
  have HNA:=keep H4.out.new
  have hab0:=H4.out.bel.size
  clear H4
  go_upto_region 8 with fail
  generalize (W5.alloc (.cells #[.int .i64 0,.int .i64 0,.int .i64 0,.int .i64 0] 119)) = W6 at H5 ⊢
  obtain ⟨ab,habe⟩ : ∃ ab,W5.heap.size = ab:=⟨_,rfl⟩
  have hab : w0.heap.size ≤ ab:=by rw [← habe]; exact hab0
  clear hab0
  rw [habe] at H5 HNA ⊢
  clear habe
  go_wp2_with fail
  go_loopw [30] (fun iv wr => ∃ (i : Nat) (vs : List Int),i ≤ 4 ∧ vs.length = i ∧ iv = .int .i64 (i : Int) ∧ Keep (([a,b,c,d].take i).map numP = vs.map some) ∧ Hid (Ln w0 (kVar ab 119 (arrV vs) :: kBlk pb 9 [.string ⟨a.toArray⟩,.string ⟨b.toArray⟩,.string ⟨c.toArray⟩,.string ⟨d.toArray⟩] :: kVar rb 23 [.int .i64 0,.int .i64 0,.int .i64 0,.int .i64 0] :: ps) lb (sndW l) wr)) (fun iv _ => 4 - (intOf iv).toNat)
  case atStart => exact ⟨0,[],Nat.zero_le _,rfl,rfl,keep rfl,H5⟩
  case round =>
   clear H5
   obtain ⟨i,vs,hi,hvl,rfl,HQ,H⟩:=hrel
   obtain ⟨wp,rfl⟩ : ∃ wp : World,wp = wr:=⟨_,rfl⟩
   rcases (show i = 0 ∨ i = 1 ∨ i = 2 ∨ i = 3 ∨ i = 4 by omega) with rfl | rfl | rfl | rfl | rfl
   ·obtain rfl : vs = []:=List.length_eq_zero_iff.1 hvl
    have H6:=Lib.hid (show Ln w0 (kVar ab 119 [.int .i64 0,.int .i64 0,.int .i64 0,.int .i64 0] :: kBlk pb 9 [.string ⟨a.toArray⟩,.string ⟨b.toArray⟩,.string ⟨c.toArray⟩,.string ⟨d.toArray⟩] :: kVar rb 23 [.int .i64 0,.int .i64 0,.int .i64 0,.int .i64 0] :: ps) lb (sndW l) wp from H.out)
    clear H
    have F:=H6.out.2.2.2.sees
    simp only [sees,kVar,kBlk,cellsAt,Nat.reduceAdd] at F
    obtain ⟨-,-,⟨zp,s0,s1,s2,s3,-⟩,-⟩:=F
    cases hn : numP a
    ·have ho : o = none:=by
      have hq:=HQ.out
      simp only [List.take_zero,List.map_nil] at hq
      rw [← HC.out]
      unfold commaP
      simp [hn]
     subst ho
     have HNN:=keep hn
     clear hn
     go_wp2_with fail
     refine (Atoi_no a _ (Nat.le_trans HA.out (by decide)) HNN.out (HE.out.below H6.out.bel)).mono ?_
     rintro e w7 ⟨⟨nn,te,pe2,rfl⟩,hb⟩
     have H7:=Lib.hid (H6.out.below hb)
     clear hb H6 zp s0 s1 s2 s3
     go_wp2_with fail
     refine (op_must_no w0 _ H7.out.bel).mono ?_
     rintro e w8 ⟨rfl,hb6⟩
     have HBB:=Lib.hid hb6
     clear hb6
     go_wp2_with fail
     subst hR
     exact ⟨rfl,rfl,HBB.out⟩
    ·rename_i v
     have HNN:=keep hn
     clear hn
     go_wp2_with fail
     refine (Atoi_yes a v _ (Nat.le_trans HA.out (by decide)) HNN.out).mono ?_
     rintro e w7 ⟨rfl,hb⟩
     have H7:=Lib.hid (H6.out.below hb)
     clear hb H6 zp s0 s1 s2 s3
     go_wp2_with fail
     refine (op_must_yes _).mono ?_
     rintro e w8 ⟨rfl,hw⟩
     obtain rfl : w7 = w8:=hw.symm
     have F:=H7.out.2.2.2.sees
     simp only [sees,kVar,kBlk,cellsAt,Nat.reduceAdd] at F
     obtain ⟨-,⟨⟨za,fa⟩,a0,a1,a2,a3,-⟩,-⟩:=F
     go_wp2_with fail
     have H8:=Lib.hid (show Ln w0 (kVar ab 119 (arrV [v]) :: kBlk pb 9 [.string ⟨a.toArray⟩,.string ⟨b.toArray⟩,.string ⟨c.toArray⟩,.string ⟨d.toArray⟩] :: kVar rb 23 [.int .i64 0,.int .i64 0,.int .i64 0,.int .i64 0] :: ps) lb (sndW l) _ from H7.out.put 0 (.int .i64 v) hab HNA.out)
     go_roundw
     case rel => exact ⟨1,[v],by omega,rfl,by go_num,keep (by have hq:=HQ.out; simp only [List.take_succ_cons,List.take_zero,List.map_cons,List.map_nil,List.cons.injEq,and_true] at hq ⊢; simp [HNN.out]),H8⟩
     case measure => simp [intOf]
   ·obtain ⟨v0,rfl⟩ : ∃ v0,vs = [v0]:=by
     match vs,hvl with
     | [v0],_ => exact ⟨v0,rfl⟩
    have H6:=Lib.hid (show Ln w0 (kVar ab 119 [.int .i64 v0,.int .i64 0,.int .i64 0,.int .i64 0] :: kBlk pb 9 [.string ⟨a.toArray⟩,.string ⟨b.toArray⟩,.string ⟨c.toArray⟩,.string ⟨d.toArray⟩] :: kVar rb 23 [.int .i64 0,.int .i64 0,.int .i64 0,.int .i64 0] :: ps) lb (sndW l) wp from H.out)
    clear H
    have F:=H6.out.2.2.2.sees
    simp only [sees,kVar,kBlk,cellsAt,Nat.reduceAdd] at F
    obtain ⟨-,-,⟨zp,s0,s1,s2,s3,-⟩,-⟩:=F
    cases hn : numP b
    ·have ho : o = none:=by
      have hq:=HQ.out
      simp only [List.take_succ_cons,List.take_zero,List.map_cons,List.map_nil,List.cons.injEq,and_true] at hq
      rw [← HC.out]
      unfold commaP
      simp [hn,hq]
     subst ho
     have HNN:=keep hn
     clear hn
     go_wp2_with fail
     refine (Atoi_no b _ (Nat.le_trans HB.out (by decide)) HNN.out (HE.out.below H6.out.bel)).mono ?_
     rintro e w7 ⟨⟨nn,te,pe2,rfl⟩,hb⟩
     have H7:=Lib.hid (H6.out.below hb)
     clear hb H6 zp s0 s1 s2 s3
     go_wp2_with fail
     refine (op_must_no w0 _ H7.out.bel).mono ?_
     rintro e w8 ⟨rfl,hb6⟩
     have HBB:=Lib.hid hb6
     clear hb6
     go_wp2_with fail
     subst hR
     exact ⟨rfl,rfl,HBB.out⟩
    ·rename_i v
     have HNN:=keep hn
     clear hn
     go_wp2_with fail
     refine (Atoi_yes b v _ (Nat.le_trans HB.out (by decide)) HNN.out).mono ?_
     rintro e w7 ⟨rfl,hb⟩
     have H7:=Lib.hid (H6.out.below hb)
     clear hb H6 zp s0 s1 s2 s3
     go_wp2_with fail
     refine (op_must_yes _).mono ?_
     rintro e w8 ⟨rfl,hw⟩
     obtain rfl : w7 = w8:=hw.symm
     have F:=H7.out.2.2.2.sees
     simp only [sees,kVar,kBlk,cellsAt,Nat.reduceAdd] at F
     obtain ⟨-,⟨⟨za,fa⟩,a0,a1,a2,a3,-⟩,-⟩:=F
     go_wp2_with fail
     go_roundw
     case rel => exact ⟨2,[v0] ++ [v],by omega,rfl,by go_num,keep (by have hq:=HQ.out; simp only [List.take_succ_cons,List.take_zero,List.map_cons,List.map_nil,List.cons.injEq,and_true] at hq ⊢; simp [HNN.out,hq]),Lib.hid (H7.out.put 1 (.int .i64 v) hab HNA.out)⟩
     case measure => simp [intOf]
   ·obtain ⟨v0,v1,rfl⟩ : ∃ v0 v1,vs = [v0,v1]:=by
     match vs,hvl with
     | [v0,v1],_ => exact ⟨v0,v1,rfl⟩
    have H6:=Lib.hid (show Ln w0 (kVar ab 119 [.int .i64 v0,.int .i64 v1,.int .i64 0,.int .i64 0] :: kBlk pb 9 [.string ⟨a.toArray⟩,.string ⟨b.toArray⟩,.string ⟨c.toArray⟩,.string ⟨d.toArray⟩] :: kVar rb 23 [.int .i64 0,.int .i64 0,.int .i64 0,.int .i64 0] :: ps) lb (sndW l) wp from H.out)
    clear H
    have F:=H6.out.2.2.2.sees
    simp only [sees,kVar,kBlk,cellsAt,Nat.reduceAdd] at F
    obtain ⟨-,-,⟨zp,s0,s1,s2,s3,-⟩,-⟩:=F
    cases hn : numP c
    ·have ho : o = none:=by
      have hq:=HQ.out
      simp only [List.take_succ_cons,List.take_zero,List.map_cons,List.map_nil,List.cons.injEq,and_true] at hq
      rw [← HC.out]
      unfold commaP
      simp [hn,hq]
     subst ho
     have HNN:=keep hn
     clear hn
     go_wp2_with fail
     refine (Atoi_no c _ (Nat.le_trans HCC.out (by decide)) HNN.out (HE.out.below H6.out.bel)).mono ?_
     rintro e w7 ⟨⟨nn,te,pe2,rfl⟩,hb⟩
     have H7:=Lib.hid (H6.out.below hb)
     clear hb H6 zp s0 s1 s2 s3
     go_wp2_with fail
     refine (op_must_no w0 _ H7.out.bel).mono ?_
     rintro e w8 ⟨rfl,hb6⟩
     have HBB:=Lib.hid hb6
     clear hb6
     go_wp2_with fail
     subst hR
     exact ⟨rfl,rfl,HBB.out⟩
    ·rename_i v
     have HNN:=keep hn
     clear hn
     go_wp2_with fail
     refine (Atoi_yes c v _ (Nat.le_trans HCC.out (by decide)) HNN.out).mono ?_
     rintro e w7 ⟨rfl,hb⟩
     have H7:=Lib.hid (H6.out.below hb)
     clear hb H6 zp s0 s1 s2 s3
     go_wp2_with fail
     refine (op_must_yes _).mono ?_
     rintro e w8 ⟨rfl,hw⟩
     obtain rfl : w7 = w8:=hw.symm
     have F:=H7.out.2.2.2.sees
     simp only [sees,kVar,kBlk,cellsAt,Nat.reduceAdd] at F
     obtain ⟨-,⟨⟨za,fa⟩,a0,a1,a2,a3,-⟩,-⟩:=F
     go_wp2_with fail
     go_roundw
     case rel => exact ⟨3,[v0,v1] ++ [v],by omega,rfl,by go_num,keep (by have hq:=HQ.out; simp only [List.take_succ_cons,List.take_zero,List.map_cons,List.map_nil,List.cons.injEq,and_true] at hq ⊢; simp [HNN.out,hq]),Lib.hid (H7.out.put 2 (.int .i64 v) hab HNA.out)⟩
     case measure => simp [intOf]
   ·obtain ⟨v0,v1,v2,rfl⟩ : ∃ v0 v1 v2,vs = [v0,v1,v2]:=by
     match vs,hvl with
     | [v0,v1,v2],_ => exact ⟨v0,v1,v2,rfl⟩
    have H6:=Lib.hid (show Ln w0 (kVar ab 119 [.int .i64 v0,.int .i64 v1,.int .i64 v2,.int .i64 0] :: kBlk pb 9 [.string ⟨a.toArray⟩,.string ⟨b.toArray⟩,.string ⟨c.toArray⟩,.string ⟨d.toArray⟩] :: kVar rb 23 [.int .i64 0,.int .i64 0,.int .i64 0,.int .i64 0] :: ps) lb (sndW l) wp from H.out)
    clear H
    have F:=H6.out.2.2.2.sees
    simp only [sees,kVar,kBlk,cellsAt,Nat.reduceAdd] at F
    obtain ⟨-,-,⟨zp,s0,s1,s2,s3,-⟩,-⟩:=F
    cases hn : numP d
    ·have ho : o = none:=by
      have hq:=HQ.out
      simp only [List.take_succ_cons,List.take_zero,List.map_cons,List.map_nil,List.cons.injEq,and_true] at hq
      rw [← HC.out]
      unfold commaP
      simp [hn,hq]
     subst ho
     have HNN:=keep hn
     clear hn
     go_wp2_with fail
     refine (Atoi_no d _ (Nat.le_trans HD.out (by decide)) HNN.out (HE.out.below H6.out.bel)).mono ?_
     rintro e w7 ⟨⟨nn,te,pe2,rfl⟩,hb⟩
     have H7:=Lib.hid (H6.out.below hb)
     clear hb H6 zp s0 s1 s2 s3
     go_wp2_with fail
     refine (op_must_no w0 _ H7.out.bel).mono ?_
     rintro e w8 ⟨rfl,hb6⟩
     have HBB:=Lib.hid hb6
     clear hb6
     go_wp2_with fail
     subst hR
     exact ⟨rfl,rfl,HBB.out⟩
    ·rename_i v
     have HNN:=keep hn
     clear hn
     go_wp2_with fail
     refine (Atoi_yes d v _ (Nat.le_trans HD.out (by decide)) HNN.out).mono ?_
     rintro e w7 ⟨rfl,hb⟩
     have H7:=Lib.hid (H6.out.below hb)
     clear hb H6 zp s0 s1 s2 s3
     go_wp2_with fail
     refine (op_must_yes _).mono ?_
     rintro e w8 ⟨rfl,hw⟩
     obtain rfl : w7 = w8:=hw.symm
     have F:=H7.out.2.2.2.sees
     simp only [sees,kVar,kBlk,cellsAt,Nat.reduceAdd] at F
     obtain ⟨-,⟨⟨za,fa⟩,a0,a1,a2,a3,-⟩,-⟩:=F
     go_wp2_with fail
     go_roundw
     case rel => exact ⟨4,[v0,v1,v2] ++ [v],by omega,rfl,by go_num,keep (by have hq:=HQ.out; simp only [List.take_succ_cons,List.take_zero,List.map_cons,List.map_nil,List.cons.injEq,and_true] at hq ⊢; simp [HNN.out,hq]),Lib.hid (H7.out.put 3 (.int .i64 v) hab HNA.out)⟩
     case measure => simp [intOf]
   ·obtain ⟨v0,v1,v2,v3,rfl⟩ : ∃ v0 v1 v2 v3,vs = [v0,v1,v2,v3]:=by
     match vs,hvl with
     | [v0,v1,v2,v3],_ => exact ⟨v0,v1,v2,v3,rfl⟩
    have ho : o = some ⟨v0,v1,v2,v3⟩:=by
     have hq:=HQ.out
     simp only [List.take_succ_cons,List.take_zero,List.map_cons,List.map_nil,List.cons.injEq,and_true] at hq
     rw [← HC.out]
     unfold commaP
     simp [hq]
    subst ho
    have H6:=Lib.hid (show Ln w0 (kVar ab 119 [.int .i64 v0,.int .i64 v1,.int .i64 v2,.int .i64 v3] :: kBlk pb 9 [.string ⟨a.toArray⟩,.string ⟨b.toArray⟩,.string ⟨c.toArray⟩,.string ⟨d.toArray⟩] :: kVar rb 23 [.int .i64 0,.int .i64 0,.int .i64 0,.int .i64 0] :: ps) lb (sndW l) wp from H.out)
    clear H
    have F:=H6.out.2.2.2.sees
    simp only [sees,kVar,kBlk,cellsAt,Nat.reduceAdd] at F
    obtain ⟨-,⟨⟨za,fa⟩,a0,a1,a2,a3,-⟩,-,⟨⟨zr,fr⟩,r0,r1,r2,r3,-⟩,-⟩:=F
    have H7:=Lib.hid (H6.out.tail.tail)
    clear H6
    have HF:=Lib.hid (show Ln w0 (kVar rb 23 [.int .i64 v0,.int .i64 v1,.int .i64 v2,.int .i64 v3] :: ps) lb (sndW l) _ from (((H7.out.put 0 (.int .i64 v0) hrb HN.out).put 1 (.int .i64 v1) hrb HN.out).put 2 (.int .i64 v2) hrb HN.out).put 3 (.int .i64 v3) hrb HN.out)
    go_wp2_with fail
    have F:=HF.out.2.2.2.sees
    simp only [sees,kVar,cellsAt,Nat.reduceAdd] at F
    obtain ⟨-,⟨-,q0,q1,q2,q3,-⟩,-⟩:=F
    have HT:=Lib.hid HF.out.tail
    refine bodyPost_ret (v:=.agg #[.int .i64 v0,.int .i64 v1,.int .i64 v2,.int .i64 v3]) (by simp [results,Tryz.results61,go_sem,q0,q1,q2,q3]) rfl ?_
    subst hR
    exact ⟨rfl,HT.out⟩
end Go.Proofs.YtjbimcdofenmdaaGreatDoor
