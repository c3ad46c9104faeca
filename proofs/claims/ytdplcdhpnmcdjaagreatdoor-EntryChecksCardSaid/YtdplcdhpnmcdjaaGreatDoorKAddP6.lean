/- Contracts of package addr's and its reference's small functions: Less, Index. Contracts of package addr's reader: read, its method add, Parse and Column. Contracts of package addr's reader: read, Parse and Column. Contracts of package addr's Parse and Column. -/
import Derived.Test.YtdplcdhpnmcdjaaGreatDoorKAddrP
import Derived.Test.YtdplcdhpnmcdjaaGreatDoorKShelf
import Derived.Lib.SmallJoins
import Derived.Shelf.Strings.Cut
import Derived.Shelf.Strings.Search2
import Derived.Shelf.Strconv.Itoa3
import Derived.Lib.AppendIntMem
import Derived.BigRegion
namespace Go.Proofs.YtdplcdhpnmcdjaaGreatDoor
open Go.RowKit Go.Proofs.Tryz
theorem AX (ac ar bc br:Int) (w:World) :
  Calls prog 45 #[.agg #[.int .i64 ac,.int .i64 ar],.agg #[.int .i64 bc,.int .i64 br]] w fun e w'=>e=.returned (.bool (zV ac ar bc br))∧Below w.heap.size w w':=by
 rcases (show ar<br∨(¬ ar<br∧ar=br∧ac<bc)∨(¬ ar<br∧ar=br∧¬ ac<bc)∨(¬ ar<br∧¬ ar=br) from by omega) with h | ⟨h1,h2,h3⟩ | ⟨h1,h2,h3⟩ | ⟨h1,h2⟩
 ·go_enter func45,ntmps45
  go_wp2
  go_ret
  exact ⟨by simp [zV,h],((Below.refl _ _).alloc (Nat.le_refl _) _).alloc (by simp) _⟩
 ·subst h2
  go_enter func45,ntmps45
  go_wp2
  go_ret
  exact ⟨by simp [zV,h3],((Below.refl _ _).alloc (Nat.le_refl _) _).alloc (by simp) _⟩
 ·subst h2
  go_enter func45,ntmps45
  go_wp2
  go_ret
  exact ⟨by simp [zV]; omega,((Below.refl _ _).alloc (Nat.le_refl _) _).alloc (by simp) _⟩
 have hb:(ar == br)=false:=by simp [h2]
 have H2:=Lib.hid h2
 clear h2
 go_enter func45,ntmps45
 go_wp2
 go_ret
 exact ⟨by have:=H2.out; simp [zV]; omega,((Below.refl _ _).alloc (Nat.le_refl _) _).alloc (by simp) _⟩
theorem BS (ac ar bc br:Int) (w:World) :
  Calls prog 84 #[.agg #[.int .i64 ac,.int .i64 ar],.agg #[.int .i64 bc,.int .i64 br]] w fun e w'=>e=.returned (.bool (zV ac ar bc br))∧Below w.heap.size w w':=by
 rcases (show ar<br∨(¬ ar<br∧ar=br∧ac<bc)∨(¬ ar<br∧ar=br∧¬ ac<bc)∨(¬ ar<br∧¬ ar=br) from by omega) with h | ⟨h1,h2,h3⟩ | ⟨h1,h2,h3⟩ | ⟨h1,h2⟩
 ·go_enter func84,ntmps84
  go_wp2
  go_ret
  exact ⟨by simp [zV,h],((Below.refl _ _).alloc (Nat.le_refl _) _).alloc (by simp) _⟩
 ·subst h2
  go_enter func84,ntmps84
  go_wp2
  go_ret
  exact ⟨by simp [zV,h3],((Below.refl _ _).alloc (Nat.le_refl _) _).alloc (by simp) _⟩
 ·subst h2
  go_enter func84,ntmps84
  go_wp2
  go_ret
  exact ⟨by simp [zV]; omega,((Below.refl _ _).alloc (Nat.le_refl _) _).alloc (by simp) _⟩
 have hb:(ar == br)=false:=by simp [h2]
 have H2:=Lib.hid h2
 clear h2
 go_enter func84,ntmps84
 go_wp2
 go_ret
 exact ⟨by have:=H2.out; simp [zV]; omega,((Below.refl _ _).alloc (Nat.le_refl _) _).alloc (by simp) _⟩
set_option maxRecDepth 100000
set_option maxHeartbeats 2000000
section
open Go.RowKit Go.Proofs.Tryz
def cn (p:Pc):Array Value:=#[.int .i64 p.m0,.int .i64 p.m1,.int .i64 p.v0,.int .i64 p.v1,.bool p.ok]
theorem mn (c:Nat) (hc:65≤c) (hc':c≤90):dz (UInt8.ofNat c)=c - 64:=by
 have:(UInt8.ofNat c).toNat=c:=by rw [UInt8.toNat_ofNat']; omega
 unfold dz; rw [this,if_pos ⟨hc,hc'⟩]
theorem yR (c:Nat) (hc:48≤c) (hc':c≤57):(UInt8.ofNat c).toNat=c:=by rw [UInt8.toNat_ofNat']; omega
theorem pf (p:Pc) (x0 x1 x2 x3:Int) (x4:Bool) (h0:x0=p.m0) (h1:x1=p.m1) (h2:x2=p.v0) (h3:x3=p.v1) (h4:x4=p.ok):(#[.int .i64 x0,.int .i64 x1,.int .i64 x2,.int .i64 x3,.bool x4]:Array Value)=cn p:=by
 subst h0 h1 h2 h3 h4; rfl
theorem gw (w:World) (b i j k:Nat) (x y z:Value):w.grownBy ((((w.setCell ⟨b,i,none⟩ x).setCell ⟨b,j,none⟩ y).setCell ⟨b,k,none⟩ z).drew.drew) (some b) :=
 have h1:w.grownBy (w.setCell ⟨b,i,none⟩ x) (some b):=eO (p:=⟨b,i,none⟩) (World.grownBy.refl w _) (.inl rfl) x
 have h2:=eO (p:=⟨b,j,none⟩) h1 (.inl rfl) y
 have h3:=eO (p:=⟨b,k,none⟩) h2 (.inl rfl) z
 kJ (kJ h3)
theorem je (b:Nat) (p:Pc) (c:Nat) (w:World) (hb:Blk w b 222 (cn p)) (h0:p.m0<4611686018427387904) (h1:p.m1<4611686018427387904) (h2:p.v0≤1025) (hc:65≤c) (hc':c≤90) :
  Calls prog 214 #[.pointer (some ⟨b,0,none⟩),.int .u8 c,.bool true] w fun e w'=>e=.returned (.tuple #[])∧Blk w' b 222 (cn (p.letter (UInt8.ofNat c)))∧w.grownBy w' (some b):=by
 have hv:=mn c hc hc'
 obtain ⟨m0,m1,v0,v1,ok⟩:=p
 have HV:=Lib.hid hv
 clear hv
 simp only [] at h0 h1 h2
 have c0:w.cell? ⟨b,0,none⟩=some (.int .i64 m0):=hb.cell 0
 have c1:w.cell? ⟨b,1,none⟩=some (.int .i64 m1):=hb.cell 1
 have c2:w.cell? ⟨b,2,none⟩=some (.int .i64 v0):=hb.cell 2
 have c4:w.cell? ⟨b,4,none⟩=some (.bool ok):=hb.cell 4
 have f0:=hb.frozen 0
 have f2:=hb.frozen 2
 have f4:=hb.frozen 4
 have H:=Lib.hid hb
 clear hb
 cases ok
 ·go_enter func214,ntmps214
  go_wp2
  go_region
  go_wp2
  go_region
  go_wp2
  refine bodyPost_ret (results_none rfl _ _ _) rfl ⟨rfl,?_,?_⟩
  ·have h:=(((H.out.set_ 4 (.bool false)).set_ 0 (.int .i64 ((m0:Int)+1))).set_ 2 (.int .i64 (min (26 * (v0:Int)+((c:Int) - 65)+1) 1025))).drew.drew
   rw [← pf (Pc.letter ⟨m0,m1,v0,v1,false⟩ (UInt8.ofNat c)) ((m0:Int)+1) m1 (min (26 * (v0:Int)+((c:Int) - 65)+1) 1025) v1 false rfl rfl (by simp only [Pc.letter,iW,HV.out]; omega) rfl rfl]
   exact h
  exact gw _ _ _ _ _ _ _ _
 by_cases hm:(m1:Int)=0
 ·obtain rfl:m1=0:=by omega
  clear hm
  go_enter func214,ntmps214
  go_wp2
  go_region
  go_wp2
  go_region
  go_wp2
  refine bodyPost_ret (results_none rfl _ _ _) rfl ⟨rfl,?_,?_⟩
  ·have h:=(((H.out.set_ 4 (.bool true)).set_ 0 (.int .i64 ((m0:Int)+1))).set_ 2 (.int .i64 (min (26 * (v0:Int)+((c:Int) - 65)+1) 1025))).drew.drew
   rw [← pf (Pc.letter ⟨m0,0,v0,v1,true⟩ (UInt8.ofNat c)) ((m0:Int)+1) 0 (min (26 * (v0:Int)+((c:Int) - 65)+1) 1025) v1 true rfl rfl (by simp only [Pc.letter,iW,HV.out]; omega) rfl rfl]
   exact h
  exact gw _ _ _ _ _ _ _ _
 have hm':((m1:Int) == 0)=false:=by simpa using hm
 have HM:=Lib.hid hm
 clear hm
 go_enter func214,ntmps214
 go_wp2
 go_region
 go_wp2
 go_region
 go_wp2
 refine bodyPost_ret (results_none rfl _ _ _) rfl ⟨rfl,?_,?_⟩
 ·have h:=(((H.out.set_ 4 (.bool false)).set_ 0 (.int .i64 ((m0:Int)+1))).set_ 2 (.int .i64 (min (26 * (v0:Int)+((c:Int) - 65)+1) 1025))).drew.drew
  rw [← pf (Pc.letter ⟨m0,m1,v0,v1,true⟩ (UInt8.ofNat c)) ((m0:Int)+1) m1 (min (26 * (v0:Int)+((c:Int) - 65)+1) 1025) v1 false rfl rfl (by simp only [Pc.letter,iW,HV.out]; omega) rfl (by have:=HM.out; simp [Pc.letter]; omega)]
  exact h
 exact gw _ _ _ _ _ _ _ _
theorem pD (b:Nat) (p:Pc) (c:Nat) (w:World) (hb:Blk w b 222 (cn p)) (h0:p.m0<4611686018427387904) (h1:p.m1<4611686018427387904) (h2:p.v1≤1025) (hc:48≤c) (hc':c≤57) :
  Calls prog 214 #[.pointer (some ⟨b,0,none⟩),.int .u8 c,.bool false] w fun e w'=>e=.returned (.tuple #[])∧Blk w' b 222 (cn (p.digit (UInt8.ofNat c)))∧w.grownBy w' (some b):=by
 have hv:=yR c hc hc'
 obtain ⟨m0,m1,v0,v1,ok⟩:=p
 have HV:=Lib.hid hv
 clear hv
 simp only [] at h0 h1 h2
 have c1:w.cell? ⟨b,1,none⟩=some (.int .i64 m1):=hb.cell 1
 have c3:w.cell? ⟨b,3,none⟩=some (.int .i64 v1):=hb.cell 3
 have c4:w.cell? ⟨b,4,none⟩=some (.bool ok):=hb.cell 4
 have f1:=hb.frozen 1
 have f3:=hb.frozen 3
 have f4:=hb.frozen 4
 have H:=Lib.hid hb
 clear hb
 have fin:∀ (o x:Bool),x=(o && ((UInt8.ofNat c) != 48 || decide (0<m1)))→Blk w b 222 (cn ⟨m0,m1,v0,v1,o⟩) → 
   Blk ((((w.setCell ⟨b,4,none⟩ (.bool x)).setCell ⟨b,1,none⟩ (.int .i64 ((m1:Int)+1))).setCell ⟨b,3,none⟩ (.int .i64 (min (10 * (v1:Int)+((c:Int) - 48)) 1025))).drew.drew) b 222 (cn (Pc.digit ⟨m0,m1,v0,v1,o⟩ (UInt8.ofNat c))):=by
  intro o x hx hB
  have h:=(((hB.set_ 4 (.bool x)).set_ 1 (.int .i64 ((m1:Int)+1))).set_ 3 (.int .i64 (min (10 * (v1:Int)+((c:Int) - 48)) 1025))).drew.drew
  rw [← pf (Pc.digit ⟨m0,m1,v0,v1,o⟩ (UInt8.ofNat c)) m0 ((m1:Int)+1) v0 (min (10 * (v1:Int)+((c:Int) - 48)) 1025) x rfl rfl rfl (by simp only [Pc.digit,eE,HV.out]; omega) hx]
  exact h
 have h48:((UInt8.ofNat c) != 48)=decide (c≠48):=by
  rw [Bool.eq_iff_iff,bne_iff_ne,decide_eq_true_eq,ne_eq,← UInt8.toNat_inj,HV.out]; rfl
 have FIN:=Lib.hid fin
 have H48:=Lib.hid h48
 clear fin h48
 cases ok
 ·go_enter func214,ntmps214
  go_wp2
  go_region
  go_wp2
  go_region
  go_wp2
  go_end0
  exact ⟨rfl,FIN.out false false rfl H.out,gw _ _ _ _ _ _ _ _⟩
 by_cases hcc:c=48
 ·subst hcc
  by_cases hm:0<m1
  ·go_enter func214,ntmps214
   go_wp2
   go_region
   go_wp2
   go_region
   go_wp2
   go_end0
   exact ⟨rfl,FIN.out true true (by simp [hm]) H.out,gw _ _ _ _ _ _ _ _⟩
  obtain rfl:m1=0:=by omega
  go_enter func214,ntmps214
  go_wp2
  go_region
  go_wp2
  go_region
  go_wp2
  go_end0
  exact ⟨rfl,FIN.out true false (by simp) H.out,gw _ _ _ _ _ _ _ _⟩
 have hcb:((c:Int) == 48)=false:=by simp; omega
 have hcb':((c:Int) != 48)=true:=by simp; omega
 have HC:=Lib.hid hcc
 clear hcc
 go_enter func214,ntmps214
 go_wp2
 go_region
 go_wp2
 go_region
 go_wp2
 go_end0
 exact ⟨rfl,FIN.out true true (by rw [H48.out]; simp [HC.out]) H.out,gw _ _ _ _ _ _ _ _⟩
end
section
open Go.RowKit Go.Proofs.Tryz
theorem j2 (s:ByteArray) (k:Nat) (h:k<s.size):s.data.toList.take (k+1)=s.data.toList.take k++[s[k]]:=by
 rw [List.take_succ_eq_append_getElem (by simpa using h)]; rfl
theorem oa (l:List UInt8) (b:UInt8):cV (l++[b])=(cV l).step b:=by simp [cV]
theorem pi (l:List UInt8):(cV l).m0≤l.length∧(cV l).m1≤l.length∧(cV l).v0≤1025∧(cV l).v1≤1025:=by
 have key:∀ (l:List UInt8) (p:Pc),p.v0≤1025→p.v1≤1025→(l.foldl Pc.step p).m0≤p.m0+l.length∧(l.foldl Pc.step p).m1≤p.m1+l.length∧(l.foldl Pc.step p).v0≤1025∧(l.foldl Pc.step p).v1≤1025:=by
  intro l
  induction l with
  | nil=>intro p h1 h2; simp [h1,h2]
  | cons b l ih =>
   intro p h1 h2
   have h3:(p.step b).v0≤1025∧(p.step b).v1≤1025∧(p.step b).m0≤p.m0+1∧(p.step b).m1≤p.m1+1:=by
    unfold Pc.step
    split
    ·simp only [Pc.letter]; exact ⟨Nat.min_le_right _ _,h2,by omega,by omega⟩
    split
    ·simp only [Pc.digit]; exact ⟨h1,Nat.min_le_right _ _,by omega,by omega⟩
    simp only [Pc.other]; exact ⟨h1,h2,by omega,by omega⟩
   have:=ih (p.step b) h3.1 h3.2.1
   simp only [List.foldl_cons,List.length_cons]
   omega
 have:=key l .start (by simp [Pc.start]) (by simp [Pc.start])
 simpa [cV,Pc.start] using this
theorem r8 (p:Pc) (b:UInt8) (h:65≤b.toNat) (h':b.toNat≤90):p.step b=p.letter (UInt8.ofNat b.toNat):=by
 have e:UInt8.ofNat b.toNat=b:=by simp
 unfold Pc.step
 rw [if_pos,e]
 unfold ar dz; rw [if_pos ⟨h,h'⟩]; simp; omega
theorem sa (p:Pc) (b:UInt8) (h:97≤b.toNat) (h':b.toNat≤122):p.step b=p.letter (UInt8.ofNat (b.toNat - 32)):=by
 have e:dz b=b.toNat - 96:=by unfold dz; rw [if_neg (by omega),if_pos ⟨h,h'⟩]
 unfold Pc.step
 rw [if_pos (by unfold ar; rw [e]; simp; omega)]
 have e2:=mn (b.toNat - 32) (by omega) (by omega)
 unfold Pc.letter iW
 rw [e2,e,show b.toNat - 32 - 64=b.toNat - 96 from by omega]
theorem r9 (p:Pc) (b:UInt8) (h:48≤b.toNat) (h':b.toNat≤57):p.step b=p.digit (UInt8.ofNat b.toNat):=by
 have e:UInt8.ofNat b.toNat=b:=by simp
 have hd:ah b=true:=by simp [ah,h,h']
 unfold Pc.step
 rw [if_neg (by simp [fx hd]),if_pos hd,e]
theorem oq (p:Pc) (b:UInt8) (h1:¬ (65≤b.toNat∧b.toNat≤90)) (h2:¬ (97≤b.toNat∧b.toNat≤122)) (h3:¬ (48≤b.toNat∧b.toNat≤57)):p.step b=p.other:=by
 unfold Pc.step
 rw [if_neg (by unfold ar dz; rw [if_neg h1,if_neg h2]; simp),if_neg (by simp only [ah,decide_eq_true_eq]; exact h3)]
theorem pF (s:ByteArray) (w:World) (hs:s.size≤4611686018427387904) :
  Calls prog 198 #[.string s] w fun e w'=>e=.returned (.agg (cn (cV s.data.toList)))∧Below w.heap.size w w':=by
 go_enter func198,ntmps198
 go_wp2_with fail
 go_loopw [10] (fun i wr=>∃ k:Nat,k≤s.size∧i=.int .i64 k∧Blk wr (w.heap.size+1) 222 (cn (cV (s.data.toList.take k)))∧(∃ a0 a1 a2 a3 a4,Blk wr w.heap.size 222 #[a0,a1,a2,a3,a4])∧Below w.heap.size w wr) (fun i _=>s.size - (intOf i).toNat)
 case atStart =>
  refine ⟨0,Nat.zero_le _,rfl,?_,⟨_,_,_,_,_,(Blk.new w 222 _).alloc _⟩,((Below.refl _ _).alloc (Nat.le_refl _) _).alloc (by simp) _⟩
  have h:=Blk.new (w.alloc (.cells #[.int .i64 0,.int .i64 0,.int .i64 0,.int .i64 0,.bool false] 222)) 222 (cn .start)
  rw [World.size_alloc] at h
  exact h
 case round =>
  obtain ⟨k,hk,rfl,hbp,⟨a0,a1,a2,a3,a4,hbr⟩,hb⟩:=hrel
  have HP:=Lib.hid hbp
  have HR:=Lib.hid hbr
  have HB:=Lib.hid hb
  clear hbp hbr hb
  by_cases hlt:k<s.size
  ·have hsn:=j2 s k hlt
   have HS:Hid (cV (s.data.toList.take (k+1))=(cV (s.data.toList.take k)).step s[k]):=by rw [hsn]; exact oa _ _
   clear hsn
   have hm:=pi (s.data.toList.take k)
   have hlen:(s.data.toList.take k).length≤k:=List.length_take_le _ _
   have f4:=HP.out.frozen 4
   have c4:wr.cell? ⟨w.heap.size+1,4,none⟩=some (.bool (cV (s.data.toList.take k)).ok):=HP.out.cell 4
   have hlt8:s[k].toNat<256:=s[k].toNat_lt
   have F4:=Lib.hid f4
   have C4:=Lib.hid c4
   have HM:=Lib.hid hm
   clear f4 c4 hm
   rcases (show (97≤s[k].toNat∧s[k].toNat≤122)∨(65≤s[k].toNat∧s[k].toNat≤90)∨(48≤s[k].toNat∧s[k].toNat≤57)∨(s[k].toNat<48)∨(57<s[k].toNat∧s[k].toNat<65)∨(90<s[k].toNat∧s[k].toNat<97)∨(122<s[k].toNat) from by omega) with ⟨h1,h2⟩ | ⟨h1,h2⟩ | ⟨h1,h2⟩ | h1 | ⟨h1,h2⟩ | ⟨h1,h2⟩ | h1
   ·go_wp2_with fail
    rw [show ((s[k].toNat:Int) - 32)=((s[k].toNat - 32:Nat):Int) from by omega]
    refine (je _ _ (s[k].toNat - 32) _ HP.out (by have:=HM.out; omega) (by have:=HM.out; omega) HM.out.2.2.1 (by omega) (by omega)).mono ?_
    rintro e w2 ⟨rfl,hp2,hg2⟩
    rw [← sa _ _ h1 h2,← HS.out] at hp2
    have HP2:=Lib.hid hp2
    have HG2:=Lib.hid hg2
    clear hp2 hg2
    go_wp2_with fail
    go_roundw
    case rel=>exact ⟨k+1,by omega,by go_num,HP2.out,⟨a0,a1,a2,a3,a4,HR.out.grown HG2.out (by simp)⟩,HB.out.grown HG2.out HB.out.size (fun j e=>by cases e; omega)⟩
    case measure=>simp [intOf]; omega
   ·go_wp2_with fail
    refine (je _ _ (s[k].toNat) _ HP.out (by have:=HM.out; omega) (by have:=HM.out; omega) HM.out.2.2.1 (by omega) (by omega)).mono ?_
    rintro e w2 ⟨rfl,hp2,hg2⟩
    rw [← r8 _ _ h1 h2,← HS.out] at hp2
    have HP2:=Lib.hid hp2
    have HG2:=Lib.hid hg2
    clear hp2 hg2
    go_wp2_with fail
    go_roundw
    case rel=>exact ⟨k+1,by omega,by go_num,HP2.out,⟨a0,a1,a2,a3,a4,HR.out.grown HG2.out (by simp)⟩,HB.out.grown HG2.out HB.out.size (fun j e=>by cases e; omega)⟩
    case measure=>simp [intOf]; omega
   ·go_wp2_with fail
    refine (pD _ _ (s[k].toNat) _ HP.out (by have:=HM.out; omega) (by have:=HM.out; omega) HM.out.2.2.2 (by omega) (by omega)).mono ?_
    rintro e w2 ⟨rfl,hp2,hg2⟩
    rw [← r9 _ _ h1 h2,← HS.out] at hp2
    have HP2:=Lib.hid hp2
    have HG2:=Lib.hid hg2
    clear hp2 hg2
    go_wp2_with fail
    go_roundw
    case rel=>exact ⟨k+1,by omega,by go_num,HP2.out,⟨a0,a1,a2,a3,a4,HR.out.grown HG2.out (by simp)⟩,HB.out.grown HG2.out HB.out.size (fun j e=>by cases e; omega)⟩
    case measure=>simp [intOf]; omega
   all_goals
    have f4:=F4.out
    have c4:=C4.out
    go_wp2_with fail
    go_roundw
    case rel =>
     refine ⟨k+1,by omega,by go_num,?_,⟨a0,a1,a2,a3,a4,HR.out.far (by simp) _⟩,HB.out.setCell (by simp) _⟩
     rw [HS.out,oq _ _ (by omega) (by omega) (by omega)]
     exact HP.out.set_ 4 _
    case measure=>simp [intOf]; omega
  have hke:s.data.toList.take k=s.data.toList:=List.take_of_length_le (by simp; omega)
  have HP':=HP.out
  rw [hke] at HP'
  have HPP:=Lib.hid HP'
  clear HP' hke
  obtain ⟨p,hp⟩:∃ p,p=cV s.data.toList:=⟨_,rfl⟩
  have HX:=HPP.out
  rw [← hp] at HX
  have HXX:=Lib.hid HX
  have HPE:=Lib.hid hp
  clear HX hp
  have c0:wr.cell? ⟨w.heap.size+1,0,none⟩=some (.int .i64 p.m0):=HXX.out.cell 0
  have c1:wr.cell? ⟨w.heap.size+1,1,none⟩=some (.int .i64 p.m1):=HXX.out.cell 1
  have c2:wr.cell? ⟨w.heap.size+1,2,none⟩=some (.int .i64 p.v0):=HXX.out.cell 2
  have c3:wr.cell? ⟨w.heap.size+1,3,none⟩=some (.int .i64 p.v1):=HXX.out.cell 3
  have c4:wr.cell? ⟨w.heap.size+1,4,none⟩=some (.bool p.ok):=HXX.out.cell 4
  have r0:wr.cell? ⟨w.heap.size,0,none⟩=some a0:=HR.out.cell 0
  have r1:wr.cell? ⟨w.heap.size,1,none⟩=some a1:=HR.out.cell 1
  have r2:wr.cell? ⟨w.heap.size,2,none⟩=some a2:=HR.out.cell 2
  have r3:wr.cell? ⟨w.heap.size,3,none⟩=some a3:=HR.out.cell 3
  have r4:wr.cell? ⟨w.heap.size,4,none⟩=some a4:=HR.out.cell 4
  have g0:=HR.out.frozen 0
  have g1:=HR.out.frozen 1
  have g2:=HR.out.frozen 2
  have g3:=HR.out.frozen 3
  have g4:=HR.out.frozen 4
  go_wp2_with fail
  have h5:Blk (((((wr.setCell ⟨w.heap.size,0,none⟩ (.int .i64 p.m0)).setCell ⟨w.heap.size,1,none⟩ (.int .i64 p.m1)).setCell ⟨w.heap.size,2,none⟩ (.int .i64 p.v0)).setCell ⟨w.heap.size,3,none⟩ (.int .i64 p.v1)).setCell ⟨w.heap.size,4,none⟩ (.bool p.ok)) w.heap.size 222 (cn p) :=
   ((((HR.out.set_ 0 _).set_ 1 _).set_ 2 _).set_ 3 _).set_ 4 _
  have b5:Below w.heap.size w (((((wr.setCell ⟨w.heap.size,0,none⟩ (.int .i64 p.m0)).setCell ⟨w.heap.size,1,none⟩ (.int .i64 p.m1)).setCell ⟨w.heap.size,2,none⟩ (.int .i64 p.v0)).setCell ⟨w.heap.size,3,none⟩ (.int .i64 p.v1)).setCell ⟨w.heap.size,4,none⟩ (.bool p.ok)) :=
   ((((HB.out.setCell (Nat.le_refl _) _).setCell (Nat.le_refl _) _).setCell (Nat.le_refl _) _).setCell (Nat.le_refl _) _).setCell (Nat.le_refl _) _
  clear r0 r1 r2 r3 r4 g0 g1 g2 g3 g4 c0 c1 c2 c3 c4
  generalize (((((wr.setCell ⟨w.heap.size,0,none⟩ (.int .i64 p.m0)).setCell ⟨w.heap.size,1,none⟩ (.int .i64 p.m1)).setCell ⟨w.heap.size,2,none⟩ (.int .i64 p.v0)).setCell ⟨w.heap.size,3,none⟩ (.int .i64 p.v1)).setCell ⟨w.heap.size,4,none⟩ (.bool p.ok))=W5 at h5 b5 ⊢
  have c0:W5.cell? ⟨w.heap.size,0,none⟩=some (.int .i64 p.m0):=h5.cell 0
  have c1:W5.cell? ⟨w.heap.size,1,none⟩=some (.int .i64 p.m1):=h5.cell 1
  have c2:W5.cell? ⟨w.heap.size,2,none⟩=some (.int .i64 p.v0):=h5.cell 2
  have c3:W5.cell? ⟨w.heap.size,3,none⟩=some (.int .i64 p.v1):=h5.cell 3
  have c4:W5.cell? ⟨w.heap.size,4,none⟩=some (.bool p.ok):=h5.cell 4
  refine bodyPost_ret (v:=.agg (cn p)) (by simp [results,results198,go_sem,cn,c0,c1,c2,c3,c4]) rfl ⟨by rw [HPE.out],b5⟩
end
section
open Go.RowKit Go.Proofs.Tryz
theorem jf (s:ByteArray) (w:World) (hs:s.size≤4611686018427387904) :
  Calls prog 161 #[.string s] w fun e w'=>e=.returned (.tuple #[.agg #[.int .i64 (aJ s.data.toList).1,.int .i64 (aJ s.data.toList).2.1],.int .i64 (aJ s.data.toList).2.2])∧Below w.heap.size w w':=by
 rw [← nV]
 generalize hR:cm (cV s.data.toList)=R
 obtain ⟨R1,R2,R3⟩:=R
 have HR:=Lib.hid hR
 clear hR
 go_enter func161,ntmps161
 go_wp2_with fail
 refine (pF _ _ hs).mono ?_
 rintro e w1 ⟨rfl,hb⟩
 have hm:=pi s.data.toList
 have hR:=HR.out
 generalize cV s.data.toList=p at hm hR ⊢
 obtain ⟨m0,m1,v0,v1,ok⟩:=p
 simp only [] at hm
 obtain ⟨hm0,hm1,hm2,hm3⟩:=hm
 have hlen:s.data.toList.length≤4611686018427387904:=by simpa using hs
 have b0:m0≤4611686018427387904:=by omega
 have b1:m1≤4611686018427387904:=by omega
 clear HR hm0 hm1 hlen
 have H1:=Lib.hid ((Blk.new w 46 #[.int .i64 0,.int .i64 0]).below hb (by simp))
 have hz:w.heap.size+1≤w1.heap.size:=by have:=hb.size; simpa using this
 have HB:=Lib.hid (((Below.refl w.heap.size w).alloc (Nat.le_refl _) _).trans (hb.mono (by simp)))
 clear hb
 have r0:∀ o,(w1.alloc o).cell? ⟨w.heap.size,0,none⟩=some (.int .i64 0):=fun o=>(H1.out.alloc o).cell 0
 have r1:∀ o,(w1.alloc o).cell? ⟨w.heap.size,1,none⟩=some (.int .i64 0):=fun o=>(H1.out.alloc o).cell 1
 have g0:∀ o,(w1.alloc o).frozen? ⟨w.heap.size,0,none⟩=false:=fun o=>(H1.out.alloc o).frozen 0
 have g1:∀ o,(w1.alloc o).frozen? ⟨w.heap.size,1,none⟩=false:=fun o=>(H1.out.alloc o).frozen 1
 unfold cn
 have fin:∀ (W':World) (c r e:Int) (fr:Act),cm ⟨m0,m1,v0,v1,ok⟩=(c,r,e)→Blk W' w.heap.size 46 #[.int .i64 c,.int .i64 r]→Below w.heap.size w W'→fr.tmps.getD 2 undef=.pointer (some ⟨w.heap.size,0,none⟩)→fr.tmps.getD 3 undef=.int .i64 e→fr.defers=[] →
   bodyPost prog Tryz.f161 (fun e w'=>e=.returned (.tuple #[.agg #[.int .i64 R1,.int .i64 R2],.int .i64 R3])∧Below w.heap.size w w') Exit.ret fr W':=by
  intro W' c r e fr hp hB hb h2 h3 hd
  rw [hp] at hR
  cases hR
  have c0:W'.cell? ⟨w.heap.size,0,none⟩=some (.int .i64 R1):=hB.cell 0
  have c1:W'.cell? ⟨w.heap.size,1,none⟩=some (.int .i64 R2):=hB.cell 1
  have h2':(fr.tmps[2]?).getD undef=.pointer (some ⟨w.heap.size,0,none⟩):=by simpa using h2
  have h3':(fr.tmps[3]?).getD undef=.int .i64 R3:=by simpa using h3
  exact bodyPost_ret (v:=.tuple #[.agg #[.int .i64 R1,.int .i64 R2],.int .i64 R3]) (by simp [results,results161,go_sem,h2',h3',c0,c1]) hd ⟨rfl,hb⟩
 have FIN:=Lib.hid fin
 clear fin
 cases ok
 ·go_wp2_with fail
  try simp only [Exit.inBlock,Exit.then]
  exact FIN.out _ 0 0 4 _ (by simp [cm]) ((((H1.out.alloc _).set_ 0 _).set_ 1 _)) (((HB.out.alloc HB.out.size _).setCell (Nat.le_refl _) _).setCell (Nat.le_refl _) _) rfl rfl rfl
 by_cases h0:m0=0
 ·subst h0
  go_wp2_with fail
  try simp only [Exit.inBlock,Exit.then]
  exact FIN.out _ 0 0 4 _ (by simp [cm]) ((((H1.out.alloc _).set_ 0 _).set_ 1 _)) (((HB.out.alloc HB.out.size _).setCell (Nat.le_refl _) _).setCell (Nat.le_refl _) _) rfl rfl rfl
 have e0:((m0:Int) == 0)=false:=by simpa using h0
 by_cases h1:m1=0
 ·subst h1
  have HH0:=Lib.hid h0
  clear h0
  go_wp2_with fail
  try simp only [Exit.inBlock,Exit.then]
  exact FIN.out _ 0 0 4 _ (by simp [cm]) ((((H1.out.alloc _).set_ 0 _).set_ 1 _)) (((HB.out.alloc HB.out.size _).setCell (Nat.le_refl _) _).setCell (Nat.le_refl _) _) rfl rfl rfl
 have e1:((m1:Int) == 0)=false:=by simpa using h1
 have HH0:=Lib.hid h0
 have HH1:=Lib.hid h1
 clear h0 h1
 go_wp2_with fail
 refine (dG _ _ _).mono ?_
 rintro e w2 ⟨rfl,hb2⟩
 have HB2:=Lib.hid ((((HB.out.alloc HB.out.size (.cells #[.int .i64 m0,.int .i64 m1,.int .i64 v0,.int .i64 v1,.bool true] 222)).alloc (by have:=HB.out.size; simp; omega) (.cells #[.int .i64 v0,.int .i64 v1] 46)).trans (hb2.mono (by have:=HB.out.size; simp; omega))))
 have H2:=Lib.hid (((H1.out.alloc (.cells #[.int .i64 m0,.int .i64 m1,.int .i64 v0,.int .i64 v1,.bool true] 222)).alloc (.cells #[.int .i64 v0,.int .i64 v1] 46)).below hb2 (by simp; omega))
 have c0:=hb2.cell (p:=⟨w1.heap.size+1,0,none⟩) (by simp)
 have c1:=hb2.cell (p:=⟨w1.heap.size+1,1,none⟩) (by simp)
 have q0:w2.cell? ⟨w.heap.size,0,none⟩=some (.int .i64 0):=H2.out.cell 0
 have q1:w2.cell? ⟨w.heap.size,1,none⟩=some (.int .i64 0):=H2.out.cell 1
 have k0:=H2.out.frozen 0
 have k1:=H2.out.frozen 1
 clear hb2
 cases hv:ba v0 v1
 ·have HV:=Lib.hid hv
  clear hv
  go_wp2_with fail
  try simp only [Exit.inBlock,Exit.then]
  exact FIN.out _ 0 0 3 _ (by simp [cm,HH0.out,HH1.out,HV.out]) (((H2.out.set_ 0 _).set_ 1 _)) ((HB2.out.setCell (Nat.le_refl _) _).setCell (Nat.le_refl _) _) rfl rfl rfl
 have HV:=Lib.hid hv
 clear hv
 go_wp2_with fail
 try simp only [Exit.inBlock,Exit.then]
 exact FIN.out _ v0 v1 0 _ (by simp [cm,HH0.out,HH1.out,HV.out]) (((H2.out.set_ 0 _).set_ 1 _)) ((HB2.out.setCell (Nat.le_refl _) _).setCell (Nat.le_refl _) _) rfl rfl rfl
end
