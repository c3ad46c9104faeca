/- The contracts of op.must and of the methods that read a line. -/
import Derived.Test.YtjbimcdofenmdaaGreatDoorMOpD
import Derived.Test.YtjbimcdofenmdaaGreatDoorMGrpP
import Derived.Test.YtjbimcdofenmdaaGreatDoorMOr4
namespace Go.Proofs.YtjbimcdofenmdaaGreatDoor
open Go.RowKit
def faultO : List PanicEntry:=[{ v:=.iface 60 (.agg #[]),recovered:=false }]
theorem op_must_yes (w : World) : Calls Tryz.prog 40 #[.bool true] w fun e w' => e = .returned (.tuple #[]) ∧ w' = w:=by
 go_enter Tryz.func40,Tryz.ntmps40
 go_wp2_with fail
 all_goals first
  | exact bodyPost_ret (results_none rfl _ _ _) rfl ⟨rfl,rfl⟩
  | (go_end0; exact ⟨rfl,rfl⟩)
def FaultAt (w0 : World) (e : Ending) (w' : World) : Prop:=e = .panicked faultO ∧ Below w0.heap.size w0 w'
theorem op_must_no (w0 w : World) (h : Below w0.heap.size w0 w) : Calls Tryz.prog 40 #[.bool false] w (FaultAt w0):=by
 have HB:=Lib.hid h
 clear h
 go_enter Tryz.func40,Tryz.ntmps40
 go_wp2_with fail
 exact ⟨rfl,rfl,HB.out⟩
theorem Cut32 (l : List UInt8) (w : World) (hs : l.length < 4294967281) (he : Env6 w) :
  Calls Tryz.prog 88 #[.string ⟨l.toArray⟩,.string ⟨#[32]⟩] w fun e w' => e = .returned (.tuple #[.string ⟨(fstW l).toArray⟩,.string ⟨(sndW l).toArray⟩,.bool (Lib.cut l [32]).2.2]) ∧ Below w.heap.size w w':=by
 obtain ⟨m,hm⟩:=he.2.2.1
 exact (Tryz.strings_Cut ⟨l.toArray⟩ ⟨#[32]⟩ m w hs hm).mono fun _ _ ⟨he,n,hw⟩ => ⟨he,hw ▸ below_drewN (Below.refl _ _) n⟩
theorem Atoi_yes (l : List UInt8) (v : Int) (w : World) (hs : l.length ≤ 4294967296) (h : numP l = some v) :
  Calls Tryz.prog 89 #[.string ⟨l.toArray⟩] w fun e w' => e = .returned (.tuple #[.int .i64 v,.nilIface]) ∧ Below w.heap.size w w':=by
 unfold numP at h
 rcases hv : Lib.atoiAll l with x | _ | _
 ·rw [hv] at h
  obtain rfl:=Option.some.inj h
  exact (Tryz.strconv_Atoi_ok ⟨l.toArray⟩ (Nat.le_trans hs (by decide)) x hv w).mono fun _ _ ⟨he,hw⟩ => ⟨he,below_cases hw⟩
 ·rw [hv] at h; cases h
 ·rw [hv] at h; cases h
theorem Atoi_no (l : List UInt8) (w : World) (hs : l.length ≤ 4294967296) (h : numP l = none) (he : Env6 w) :
  Calls Tryz.prog 89 #[.string ⟨l.toArray⟩] w fun e w' => (∃ n te pe,e = .returned (.tuple #[.int .i64 n,.iface te pe])) ∧ Below w.heap.size w w':=by
 unfold numP at h
 rcases hv : Lib.atoiAll l with x | _ | _
 ·rw [hv] at h; cases h
 ·obtain ⟨te,pe,hc⟩:=he.2.2.2.1
  exact (Tryz.strconv_Atoi_syntax ⟨l.toArray⟩ (Nat.le_trans hs (by decide)) hv _ _ hc (.inr ⟨te,pe,rfl⟩)).mono fun _ _ ⟨_,he,_,_,hb⟩ => ⟨⟨_,_,_,he⟩,hb⟩
 ·obtain ⟨te,pe,hc⟩:=he.2.2.2.2
  exact (Tryz.strconv_Atoi_range ⟨l.toArray⟩ (Nat.le_trans hs (by decide)) hv _ _ hc (.inr ⟨te,pe,rfl⟩)).mono fun _ _ ⟨_,he,_,_,hb⟩ => ⟨⟨_,_,_,he⟩,hb⟩
theorem numP_i64 {l : List UInt8} {v : Int} (h : numP l = some v) : i64B v:=by
 unfold numP at h
 rcases hv : Lib.atoiAll l with x | _ | _
 ·rw [hv] at h
  obtain rfl:=Option.some.inj h
  exact Lib.atoiAll_bounds hv
 ·rw [hv] at h; cases h
 ·rw [hv] at h; cases h
theorem fst_len (l : List UInt8) : (fstW l).length ≤ l.length:=by
 unfold fstW Lib.cut; split <;> simp <;> omega
theorem snd_len (l : List UInt8) : (sndW l).length ≤ l.length:=by
 unfold sndW Lib.cut; split <;> simp
def Ln (w0 : World) (ps : List Pers) (lb : Nat) (l : List UInt8) (W : World) : Prop :=
 w0.heap.size ≤ lb ∧ (∀ x ∈ ps,x.far (some lb)) ∧ l.length ≤ 100000 ∧ Ok w0 (kVar lb 87 [.string ⟨l.toArray⟩] :: ps) W
section
variable {w0 w w' : World} {ps : List Pers} {lb : Nat} {l : List UInt8}
theorem Ln.below (h : Ln w0 ps lb l w) (hb : Below w.heap.size w w') : Ln w0 ps lb l w':=⟨h.1,h.2.1,h.2.2.1,h.2.2.2.below hb⟩
theorem Ln.bel (h : Ln w0 ps lb l w) : Below w0.heap.size w0 w:=h.2.2.2.bel
theorem Ln.next (h : Ln w0 ps lb l w) : Ln w0 ps lb (sndW l) (w.setCell ⟨lb,0,none⟩ (.string ⟨(sndW l).toArray⟩)) :=
 ⟨h.1,h.2.1,Nat.le_trans (snd_len l) h.2.2.1,h.2.2.2.set_ (i:=0) (u:=.string ⟨(sndW l).toArray⟩) h.1 h.2.1⟩
end
def Took (v : Value) (w0 : World) (ps : List Pers) (lb : Nat) (l : List UInt8) (e : Ending) (w' : World) : Prop:=e = .returned v ∧ Ln w0 ps lb l w'
set_option maxRecDepth 100000 in
set_option maxHeartbeats 4000000 in
theorem l_word (w0 : World) (ps : List Pers) (lb : Nat) (l : List UInt8) (w : World) (h : Ln w0 ps lb l w) (he : Env6 w0) :
  Calls Tryz.prog 59 #[.pointer (some ⟨lb,0,none⟩)] w (Took (.string ⟨(fstW l).toArray⟩) w0 ps lb (sndW l)):=by
 have H:=Lib.hid h
 have HE:=keep he
 clear h he
 have F:=H.out.2.2.2.sees
 simp only [sees,kVar,cellsAt] at F
 obtain ⟨⟨⟨z0,f0⟩,c0,-⟩,-⟩:=F
 have h5:=H.out.2.2.1
 obtain ⟨R,hR⟩ : ∃ R,Took (.string ⟨(fstW l).toArray⟩) w0 ps lb (sndW l) = R:=⟨_,rfl⟩
 rw [hR]
 go_enter Tryz.func59,Tryz.ntmps59
 go_wp2_with fail
 refine (Cut32 l _ (by omega) (HE.out.below H.out.bel)).mono ?_
 rintro e w1 ⟨rfl,hb⟩
 have H1:=Lib.hid (H.out.below hb)
 clear hb H
 clear z0 f0 c0 h5
 have F:=H1.out.2.2.2.sees
 simp only [sees,kVar,cellsAt] at F
 obtain ⟨⟨⟨z0,f0⟩,c0,-⟩,-⟩:=F
 go_wp2_with fail
 subst hR
 exact ⟨rfl,H1.out.next⟩
set_option maxRecDepth 100000 in
set_option maxHeartbeats 4000000 in
theorem l_number_yes (w0 : World) (ps : List Pers) (lb : Nat) (l : List UInt8) (w : World) (h : Ln w0 ps lb l w) (he : Env6 w0) (v : Int) (hv : numP (fstW l) = some v) :
  Calls Tryz.prog 60 #[.pointer (some ⟨lb,0,none⟩)] w (Took (.int .i64 v) w0 ps lb (sndW l)):=by
 have H:=Lib.hid h
 have HE:=keep he
 clear h he
 have HV:=keep hv
 clear hv
 have HLE:=keep (Nat.le_trans (fst_len l) H.out.2.2.1)
 obtain ⟨R,hR⟩ : ∃ R,(Took (.int .i64 v) w0 ps lb (sndW l) : Ending → World → Prop) = R:=⟨_,rfl⟩
 rw [hR]
 go_enter Tryz.func60,Tryz.ntmps60
 go_wp2_with fail
 refine (l_word w0 ps lb l _ H.out HE.out).mono ?_
 rintro e w1 ⟨rfl,h1⟩
 have H1:=Lib.hid h1
 clear h1 H
 go_wp2_with fail
 refine (Atoi_yes (fstW l) v _ (Nat.le_trans HLE.out (by decide)) HV.out).mono ?_
 rintro e w2 ⟨rfl,hb⟩
 have H2:=Lib.hid (H1.out.below hb)
 clear hb H1
 go_wp2_with fail
 refine (op_must_yes _).mono ?_
 rintro e w3 ⟨rfl,hw⟩
 obtain rfl : w2 = w3:=hw.symm
 go_wp2_with fail
 subst hR
 exact ⟨rfl,H2.out⟩
set_option maxRecDepth 100000 in
set_option maxHeartbeats 4000000 in
theorem l_number_no (w0 : World) (ps : List Pers) (lb : Nat) (l : List UInt8) (w : World) (h : Ln w0 ps lb l w) (he : Env6 w0) (hv : numP (fstW l) = none) :
  Calls Tryz.prog 60 #[.pointer (some ⟨lb,0,none⟩)] w (FaultAt w0):=by
 have H:=Lib.hid h
 have HE:=keep he
 clear h he
 have HV:=keep hv
 clear hv
 have HLE:=keep (Nat.le_trans (fst_len l) H.out.2.2.1)
 obtain ⟨R,hR⟩ : ∃ R,(FaultAt w0 : Ending → World → Prop) = R:=⟨_,rfl⟩
 rw [hR]
 go_enter Tryz.func60,Tryz.ntmps60
 go_wp2_with fail
 refine (l_word w0 ps lb l _ H.out HE.out).mono ?_
 rintro e w1 ⟨rfl,h1⟩
 have H1:=Lib.hid h1
 clear h1 H
 go_wp2_with fail
 refine (Atoi_no (fstW l) _ (Nat.le_trans HLE.out (by decide)) HV.out (HE.out.below H1.out.bel)).mono ?_
 rintro e w2 ⟨⟨n,te,pe,rfl⟩,hb⟩
 have H2:=Lib.hid (H1.out.below hb)
 clear hb H1
 go_wp2_with fail
 refine (op_must_no w0 _ H2.out.bel).mono ?_
 rintro e w3 ⟨rfl,hb3⟩
 have H3:=Lib.hid hb3
 clear hb3
 go_wp2_with fail
 subst hR
 exact ⟨rfl,rfl,H3.out⟩
set_option maxRecDepth 100000 in
set_option maxHeartbeats 4000000 in
theorem l_set_yes (w0 : World) (ps : List Pers) (lb : Nat) (l : List UInt8) (w : World) (h : Ln w0 ps lb l w) (he : Env6 w0) (v : Nat) (hv : setP (fstW l) = some v) :
  Calls Tryz.prog 63 #[.pointer (some ⟨lb,0,none⟩)] w (Took (.int .u64 (v : Nat)) w0 ps lb (sndW l)):=by
 have H:=Lib.hid h
 have HE:=keep he
 clear h he
 have HV:=keep hv
 clear hv
 have HLE:=keep (Nat.le_trans (fst_len l) H.out.2.2.1)
 obtain ⟨R,hR⟩ : ∃ R,(Took (.int .u64 (v : Nat)) w0 ps lb (sndW l) : Ending → World → Prop) = R:=⟨_,rfl⟩
 rw [hR]
 go_enter Tryz.func63,Tryz.ntmps63
 go_wp2_with fail
 refine (l_word w0 ps lb l _ H.out HE.out).mono ?_
 rintro e w1 ⟨rfl,h1⟩
 have H1:=Lib.hid h1
 clear h1 H
 go_wp2_with fail
 obtain ⟨P,hP⟩ : ∃ P,gparseG (fstW l) = P:=⟨_,rfl⟩
 have HP:=keep hP
 refine (group_parse ⟨(fstW l).toArray⟩ _ (Nat.le_trans HLE.out (by decide)) (HE.out.below H1.out.bel).2).mono ?_
 rintro e w2 ⟨rfl,hb⟩
 rw [show (⟨(fstW l).toArray⟩ : ByteArray).data.toList = fstW l from rfl,hP]
 clear hP
 obtain ⟨p,q⟩:=P
 have HS:=HV.out
 unfold setP at HS
 rw [HP.out] at HS
 dsimp only at HS ⊢
 have hq : q = 0:=Classical.byContradiction fun h => by rw [if_neg h] at HS; cases HS
 subst hq
 rw [if_pos rfl] at HS
 obtain rfl:=Option.some.inj HS
 clear HS HP
 have H2:=Lib.hid (H1.out.below hb)
 clear hb H1
 go_wp2_with fail
 refine (op_must_yes _).mono ?_
 rintro e w3 ⟨rfl,hw⟩
 obtain rfl : w2 = w3:=hw.symm
 go_wp2_with fail
 subst hR
 exact ⟨rfl,H2.out⟩
set_option maxRecDepth 100000 in
set_option maxHeartbeats 4000000 in
theorem l_set_no (w0 : World) (ps : List Pers) (lb : Nat) (l : List UInt8) (w : World) (h : Ln w0 ps lb l w) (he : Env6 w0) (hv : setP (fstW l) = none) :
  Calls Tryz.prog 63 #[.pointer (some ⟨lb,0,none⟩)] w (FaultAt w0):=by
 have H:=Lib.hid h
 have HE:=keep he
 clear h he
 have HV:=keep hv
 clear hv
 have HLE:=keep (Nat.le_trans (fst_len l) H.out.2.2.1)
 obtain ⟨R,hR⟩ : ∃ R,(FaultAt w0 : Ending → World → Prop) = R:=⟨_,rfl⟩
 rw [hR]
 go_enter Tryz.func63,Tryz.ntmps63
 go_wp2_with fail
 refine (l_word w0 ps lb l _ H.out HE.out).mono ?_
 rintro e w1 ⟨rfl,h1⟩
 have H1:=Lib.hid h1
 clear h1 H
 go_wp2_with fail
 obtain ⟨P,hP⟩ : ∃ P,gparseG (fstW l) = P:=⟨_,rfl⟩
 have HP:=keep hP
 refine (group_parse ⟨(fstW l).toArray⟩ _ (Nat.le_trans HLE.out (by decide)) (HE.out.below H1.out.bel).2).mono ?_
 rintro e w2 ⟨rfl,hb⟩
 rw [show (⟨(fstW l).toArray⟩ : ByteArray).data.toList = fstW l from rfl,hP]
 clear hP
 obtain ⟨p,q⟩:=P
 have HS:=HV.out
 unfold setP at HS
 rw [HP.out] at HS
 dsimp only at HS ⊢
 have hq : ¬ q = 0:=fun h => by rw [if_pos h] at HS; cases HS
 have hqb : (q == 0) = false:=by simpa using hq
 clear HS HP hq
 have H2:=Lib.hid (H1.out.below hb)
 clear hb H1
 go_wp2_with fail
 refine (op_must_no w0 _ H2.out.bel).mono ?_
 rintro e w3 ⟨rfl,hb3⟩
 have H3:=Lib.hid hb3
 clear hb3
 go_wp2_with fail
 subst hR
 exact ⟨rfl,rfl,H3.out⟩
end Go.Proofs.YtjbimcdofenmdaaGreatDoor
