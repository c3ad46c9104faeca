/- The own part of EntryParts beyond the base that the claims of the seat share. -/
import Derived.Test.YtfffihcadhfplaaGreatDoorRows
import Derived.WalkKit
import Derived.WalkSpells
import Derived.WalkLawsBesides
import Derived.Lib.Hide
import Derived.Deep.Slices
import Derived.Deep.Fields
import Derived.ChangeSame
import Derived.Lib.LaidTab
import Derived.Laws.OwnMore
import Derived.Deep.Draws
import Derived.Laws.Rows
import Derived.Deep.OwnRows
import Derived.Test.YtfffihcadhfplaaGreatDoorQShelf
import Derived.Test.YtfffihcadhfplaaGreatDoorQAddrP
import Derived.Lib.ItoaNum
import Derived.Test.YtfffihcadhfplaaGreatDoorQIterV
import Derived.Test.YtfffihcadhfplaaGreatDoorQLexP
import Derived.Deep.RegionHeld3
import Derived.Deep.AppendLies
import Derived.Deep.Onto
import Derived.Deep.RegionHeld
import Derived.RangeFuncNested
import Derived.RangeFuncBound
import Derived.RangeFuncCalls
import Derived.RangeFuncLeaves
import Derived.RangeFuncBox
import Derived.Shelf.Abstract
import Derived.OwnWalkIn
import Derived.TacticsInMore
import Derived.LoopNIn
import Derived.LoopIn
import Derived.Maps.AppendAt
import Derived.IntWalk
import Derived.Laws.IdiomStrings
import Derived.Lib.Strings
import Derived.Test.YtfffihcadhfplaaGreatDoorQLexC
import Derived.Laws.RangeString
import Derived.Laws.RangeAny
import Derived.Laws.BytesArg
import Derived.Lib.BufferRead
import Derived.WalkMore
import Derived.Test.YtfffihcadhfplaaGreatDoorQLexI
import Derived.Deep.DeepCutAuto
import Derived.Stop.LaidErr
import Derived.LaidLaws
import Derived.LaidSub
import Derived.Test.YtfffihcadhfplaaGreatDoorQVal
import Derived.Lib.IndexBytes
import Derived.Test.YtfffihcadhfplaaGreatDoorQLexD
import Derived.Test.YtfffihcadhfplaaGreatDoorQLexG
import Derived.Test.YtfffihcadhfplaaGreatDoorQLexJ
import Derived.Laws.Strings3
import Derived.Test.YtfffihcadhfplaaGreatDoorQLexK
import Derived.Lib.SmallJoins
import Derived.Shelf.Strings.Cut
import Derived.Shelf.Strings.Search2
import Derived.Shelf.Strconv.Itoa3
import Derived.Lib.AppendIntMem
import Derived.BigRegion
import Derived.Test.YtfffihcadhfplaaGreatDoorQAddP6
import Derived.Deep.LoopGhost
import Derived.Test.YtfffihcadhfplaaGreatDoorQLexM
import Derived.Laws.EntriesVeiled
import Derived.Test.YtfffihcadhfplaaGreatDoorQLexN
import Derived.Test.YtfffihcadhfplaaGreatDoorQParP
import Derived.Test.YtfffihcadhfplaaGreatDoorQParA
import Derived.Test.YtfffihcadhfplaaGreatDoorQParB
import Derived.Test.YtfffihcadhfplaaGreatDoorQTreA
import Derived.Test.YtfffihcadhfplaaGreatDoorQParK
import Derived.Test.YtfffihcadhfplaaGreatDoorQTreB
import Derived.ChangeArms
import Derived.Test.YtfffihcadhfplaaGreatDoorQGiv
import Derived.WideMake
import Derived.Carry
import Derived.Shelf.Strings.Builder1
import Derived.Shelf.Strings.Builder2
import Derived.Shelf.Strings.OnBuilder
import Derived.Shelf.Small.Wraps
import Derived.Shelf.Strings.BuilderF
import Derived.Shelf.Strings.BuilderK
import Derived.Shelf.Utf8.RuneCount
import Derived.Shelf.Strings.Builder2Cap
import Derived.Shelf.Strconv.Itoa0
import Derived.Shelf.Strconv.Itoa1
import Derived.Shelf.LaysM
import Derived.Shelf.Strconv.Itoa2
import Derived.Shelf.Strings.Search1
import Derived.Shelf.Strings.Search3
import Derived.Shelf.Strings.Count
import Derived.Shelf.Strings.Shaped
import Derived.Shelf.GgClosure.StringsIndexFunc
import Derived.Ground.GgwProg
import Derived.Shelf.GgClosure.StringsIndexFuncTop
import Derived.Shelf.GgClosure.StringsRunes
import Derived.Shelf.Strings.Prefix
import Derived.Shelf.Strings.Split
import Derived.Shelf.Strings.Replace
import Derived.Shelf.Strings.SplitShaped
import Derived.Shelf.Unicode.Decode
import Derived.Shelf.Strings.RuneCount
import Derived.Shelf.Unicode.DecodeSlow
import Derived.Shelf.Unicode.DecodeAny
import Derived.Shelf.Strings.FuncGrows
import Derived.Shelf.Strings.BuilderCap
import Derived.Shelf.Slices.Turned
import Derived.Test.YtfffihcadhfplaaGreatDoorProg
import Derived.Lib.Replace
import Derived.Test.YtfffihcadhfplaaGreatDoorQLexO
import Derived.Laws.StructEq
import Derived.Test.YtfffihcadhfplaaGreatDoorQEqV
import Derived.Lib.AppendStr
import Derived.Test.YtfffihcadhfplaaGreatDoorQDecF
import Derived.Test.YtfffihcadhfplaaGreatDoorQShw
import Derived.Test.YtfffihcadhfplaaGreatDoorQEvb
import Derived.Test.YtfffihcadhfplaaGreatDoorQEvc
import Derived.Test.YtfffihcadhfplaaGreatDoorQEna
import Derived.Test.YtfffihcadhfplaaGreatDoorQDpV
import Derived.Test.YtfffihcadhfplaaGreatDoorQEnb
import Derived.Defers
import Derived.Recover
import Derived.Test.YtfffihcadhfplaaGreatDoorQParE
import Derived.Test.YtfffihcadhfplaaGreatDoorQParF
import Derived.Test.YtfffihcadhfplaaGreatDoorQParG
import Derived.Test.YtfffihcadhfplaaGreatDoorQParH
import Derived.Test.YtfffihcadhfplaaGreatDoorQParI
import Derived.Test.YtfffihcadhfplaaGreatDoorQSgn
import Derived.Test.YtfffihcadhfplaaGreatDoorQNdF
import Derived.Test.YtfffihcadhfplaaGreatDoorQDcB
import Derived.Test.YtfffihcadhfplaaGreatDoorQTwk
import Derived.Test.YtfffihcadhfplaaGreatDoorQShn
import Derived.Test.YtfffihcadhfplaaGreatDoorQForB
import Derived.Test.YtfffihcadhfplaaGreatDoorQEnc
import Derived.Test.YtfffihcadhfplaaGreatDoorQEnd
import Derived.OpenShut
import Derived.Test.YtfffihcadhfplaaGreatDoorQLit
import Derived.Test.YtfffihcadhfplaaGreatDoorQTxt
import Derived.Test.YtfffihcadhfplaaGreatDoorQTxu
import Derived.Test.YtfffihcadhfplaaGreatDoorQTxv
import Derived.Lib.Repeat
import Derived.Test.YtfffihcadhfplaaGreatDoorQEbp
import Derived.Test.YtfffihcadhfplaaGreatDoorQNdG
import Derived.Test.YtfffihcadhfplaaGreatDoorQEng
namespace Go.Proofs.YtfffihcadhfplaaGreatDoor
open Go.RowKit
theorem fau_take {l:List En3} {m j:Nat} (h:j<m):fauAt (l.take m) j=fauAt l j:=by
 have e1:(l.take m)[j]?=l[j]?:=by rw [List.getElem?_take,if_pos h]
 have e2:prvE (l.take m) j=prvE l j:=by
  unfold prvE
  split
  ·rfl
  ·rw [List.getElem?_take,if_pos (by omega)]
 unfold fauAt
 rw [e1,e2]
theorem fau_drop {l:List En3} {a j:Nat} (h:fauAt l (a+j)=0):fauAt (l.drop a) j=0:=by
 unfold fauAt at h ⊢
 rw [List.getElem?_drop]
 cases hx:l[a+j]? with
 | none=>rfl
 | some x =>
  rw [hx] at h
  simp only [] at h ⊢
  by_cases h0:j=0
  ·have e:prvE (l.drop a) j=none:=by unfold prvE; rw [if_pos h0]
   rw [e]
   unfold fauE at h ⊢
   split at h
   ·cases h
   ·rename_i hv
    rw [if_neg hv,if_neg (by simp)]
    split at h
    ·cases h
    ·exact h
  ·have e:prvE (l.drop a) j=prvE l (a+j):=by
    unfold prvE
    rw [if_neg h0,if_neg (by omega),List.getElem?_drop,show a+j - 1=a+(j - 1) by omega]
   rw [e]; exact h
theorem chk_cases (l:List En3):(chkE l=(0,0)∧∀ j,j<l.length→fauAt l j=0)∨∃ i,i<l.length∧chkE l=((i:Int),fauAt l i)∧fauAt l i≠0∧∀ j,j<i→fauAt l j=0:=by
 by_cases h:∀ j,j<l.length→fauAt l j=0
 ·exact .inl ⟨chk_none h,h⟩
 ·right
  have key:∀ n,(∀ j,j<n→fauAt l j=0)∨∃ i,i<n∧fauAt l i≠0∧∀ j,j<i→fauAt l j=0:=by
   intro n
   induction n with
   | zero=>exact .inl fun j hj=>by omega
   | succ n ih =>
    rcases ih with g | ⟨i,g1,g2,g3⟩
    ·by_cases h0:fauAt l n=0
     ·left
      intro j hj
      by_cases e:j=n
      ·rw [e]; exact h0
      ·exact g j (by omega)
     ·exact .inr ⟨n,Nat.lt_succ_self n,h0,g⟩
    ·exact .inr ⟨i,by omega,g2,g3⟩
  rcases key l.length with g | ⟨i,g1,g2,g3⟩
  ·exact absurd g h
  ·exact ⟨i,g1,chk_at g1 g3 g2,g2,g3⟩
theorem chk_take_ok {l:List En3} {m:Nat} (h:∀ j,j<l.length→j<m→fauAt l j=0):chkE (l.take m)=(0,0) :=
 chk_none fun j hj=>by
  rw [List.length_take] at hj
  rw [fau_take (by omega)]
  exact h j (by omega) (by omega)
theorem chk_take_at {l:List En3} {m i:Nat} (hi:i<l.length) (hm:i<m) (h:fauAt l i≠0) (hj:∀ j,j<i→fauAt l j=0):chkE (l.take m)=((i:Int),fauAt l i):=by
 have h9:=chk_at (l:=l.take m) (i:=i) (by rw [List.length_take]; omega) (fun j h=>by rw [fau_take (by omega)]; exact hj j h) (by rw [fau_take hm]; exact h)
 rw [h9,fau_take hm]
theorem chk_part {l:List En3} (a k:Nat) (h:∀ j,j<l.length→fauAt l j=0):chkE ((l.drop a).take k)=(0,0) :=
 chk_take_ok fun j hj _=>fau_drop (by
  rw [List.length_drop] at hj
  exact h _ (by omega))
theorem rows_takeE {w:World} {a:Option Addr} {s:Nat} {l:List (List Value)} (h:RowsAt w a s l) (m:Nat):RowsAt w a s (l.take m):=by
 intro hne
 obtain ⟨b,o,h1,h2,h3⟩:=h (by rintro rfl; simp at hne)
 refine ⟨b,o,h1,h2,fun i r hi j v hj=>h3 i r ?_ j v hj⟩
 rw [List.getElem?_take] at hi
 split at hi
 ·exact hi
 ·cases hi
theorem rows_dropE {w:World} {b o s:Nat} {l:List (List Value)} (h:RowsAt w (some ⟨b,o,none⟩) s l) (a:Nat):RowsAt w (some ⟨b,o+a * s,none⟩) s (l.drop a):=by
 intro hne
 obtain ⟨b',o',h1,h2,h3⟩:=h (by rintro rfl; simp at hne)
 injection h1 with h1
 injection h1 with e1 e2
 subst e1 e2
 refine ⟨b,o+a * s,rfl,h2,fun i r hi j v hj => ?_⟩
 rw [List.getElem?_drop] at hi
 have:=h3 (a+i) r hi j v hj
 rw [show o+a * s+(i * s+j)=o+((a+i) * s+j) by rw [Nat.add_mul]; omega]
 exact this
set_option maxRecDepth 100000
set_option maxHeartbeats 8000000
theorem rows_some {w:World} {a:Option Addr} {s:Nat} {l:List (List Value)} (h:RowsAt w a s l) (hne:l≠[]):∃ b o,a=some ⟨b,o,none⟩:=by
 obtain ⟨b,o,h1,-,-⟩:=h hne
 exact ⟨b,o,h1⟩
theorem law_EntryParts (l:List En3) (a:Option Addr) (c:Nat) (fr tz:Int) (w:World) (hr:RowsAt w a 3 (l.map enRow)) (hnc:l.length≤c) (he:WEnv w) :
  Calls Tryz.prog 7 #[.slice a l.length c,.int .i64 fr,.int .i64 tz] w fun e w'=>e=.returned (.bool true)∧Below w.heap.size w w':=by
 have HE:=keep he
 have HR:=keep hr
 have HKN:=keep (fun W h=>law_known11 W h)
 obtain ⟨n,hn⟩:∃ n,l.length=n:=⟨_,rfl⟩
 rw [hn] at hnc ⊢
 have HN:=keep hn
 clear he hr hn
 have H0:=Lib.hid (Ok.start w)
 by_cases hn30:(n:Int)>30
 ·go_enter Tryz.func7,Tryz.ntmps7
  go_wp2_with fail
  refine (HKN.out w HE.out).mono ?_
  rintro e w1 ⟨rfl,hb⟩
  have HB:=Lib.hid hb
  clear hb
  go_wp2_with fail
  go_ret
  exact ⟨rfl,HB.out⟩
 go_enter Tryz.func7,Tryz.ntmps7
 go_wp2_with fail
 go_loopw [7] (fun iv wr=>∃ i:Nat,i≤n∧iv=.int .i64 (i:Int)∧wr=w) (fun iv _=>n - (intOf iv).toNat)
 case atStart=>exact ⟨0,Nat.zero_le _,rfl,rfl⟩
 case round =>
  obtain ⟨i,hi,rfl,hwr⟩:=hrel
  obtain rfl:w=wr:=hwr.symm
  by_cases hlt:(i:Int)<(n:Int)
  ·have hil:i<l.length:=by rw [HN.out]; omega
   obtain ⟨x,hx⟩:∃ x,l[i]?=some x:=⟨_,List.getElem?_eq_getElem hil⟩
   obtain ⟨b1,o1,ha,hB,hc⟩:=rows_at HR.out (i:=i) (r:=enRow x) (by rw [List.getElem?_map,hx]; rfl)
   subst ha
   have hcl:=hc 2 _ rfl
   obtain ⟨X,hX⟩:∃ X:ByteArray,⟨x.inp.toArray⟩=X:=⟨_,rfl⟩
   rw [hX] at hcl
   clear hX hx hc hil
   by_cases hbig:(X.size:Int)>300
   ·go_wp2_with fail
    refine (HKN.out w HE.out).mono ?_
    rintro e w1 ⟨rfl,hb⟩
    have HB:=Lib.hid hb
    clear hb
    go_wp2_with fail
    go_ret
    exact ⟨rfl,HB.out⟩
   ·go_wp2_with fail
    go_roundw
    case rel=>exact ⟨i+1,by omega,by go_num,by first | trivial | rfl⟩
    case measure=>simp [intOf]; omega
  ·obtain rfl:i=n:=by omega
   have HCK:=keep (fun (W:World) (h:Below w.heap.size w W)=>entry_Check l a c W (by rw [HN.out]; omega) (HR.out.below h) (HE.out.below h).1)
   have HCT:=keep (fun (m:Nat) (hm:m≤i) (W:World) (h:Below w.heap.size w W)=>show Calls Tryz.prog 18 #[.slice a m c] W fun e w'=>e=.returned (.tuple #[.int .i64 (chkE (l.take m)).1,.int .i64 (chkE (l.take m)).2])∧Below W.heap.size W w' from by
    have h9:=entry_Check (l.take m) a c W (by rw [List.length_take,HN.out]; omega) (by rw [List.map_take]; exact rows_takeE (HR.out.below h) m) (HE.out.below h).1
    rw [List.length_take,HN.out,Nat.min_eq_left hm] at h9
    exact h9)
   rw [HN.out] at HCK
   rcases chk_cases l with ⟨hc0,hall⟩ | ⟨f,hf,hcf,hne,hbef⟩
   ·have HALL:=keep hall
    have HT0:=keep (fun m=>chk_take_ok (l:=l) (m:=m) fun j hj _=>hall j hj)
    rw [hc0] at HCK
    clear hc0 hall
    go_wp2_with fail
    refine (HCK.out w (Below.refl _ _)).mono ?_
    rintro e w1 ⟨rfl,hb⟩
    have H1:=Lib.hid (H0.out.below hb)
    clear hb H0
    go_wp2_with fail
    go_loopw [10] (fun mv wr=>∃ m:Nat,m≤i+1∧mv=.int .i64 (m:Int)∧Hid (Ok w [] wr)) (fun mv _=>i+1 - (intOf mv).toNat)
    case atStart=>exact ⟨0,Nat.zero_le _,rfl,H1⟩
    case round =>
     clear H1
     obtain ⟨m,hm,rfl,HQ⟩:=hrel
     obtain ⟨wq,rfl⟩:∃ wq:World,wq=wr:=⟨_,rfl⟩
     by_cases hmi:(m:Int)≤(i:Int)
     ·have hmc:(m:Int)≤(c:Int):=by omega
      have HC:=keep (HCT.out m (by omega) wq HQ.out.bel)
      rw [HT0.out m] at HC
      go_wp2_with fail
      refine HC.out.mono ?_
      rintro e w2 ⟨rfl,hb⟩
      have H2:=Lib.hid (HQ.out.below hb)
      clear hb HQ HC
      go_wp2_with fail
      go_roundw
      case rel=>exact ⟨m+1,by omega,by go_num,H2⟩
      case measure=>simp [intOf]; omega
     ·by_cases hi0:i=0
      ·subst hi0
       go_wp2_with fail
       refine (HKN.out wq (HE.out.below HQ.out.bel)).mono ?_
       rintro e w1 ⟨rfl,hb⟩
       have H2:=Lib.hid (HQ.out.below hb)
       clear hb
       go_wp2_with fail
       go_ret
       exact ⟨rfl,H2.out.bel⟩
      ·have hi0b:((i:Int) == 0)=false:=by simp; omega
       obtain ⟨b1,o1,ha⟩:=rows_some HR.out (by intro h9; have:=congrArg List.length h9; rw [List.length_map,HN.out] at this; simp at this; omega)
       subst ha
       have hr1:∃ r:Int,fr.tmod (i:Int)=r∧-(i:Int)<r∧r<(i:Int):=⟨_,rfl,Int.lt_tmod_of_pos fr (by omega),Int.tmod_lt_of_pos fr (by omega)⟩
       obtain ⟨r,hr1,hr2,hr3⟩:=hr1
       have hA:∃ A:Nat,(r+(i:Int)).tmod (i:Int)=(A:Int)∧A<i:=by
        have h1:(r+(i:Int)).tmod (i:Int)=(r+(i:Int)) % (i:Int):=Int.tmod_eq_emod_of_nonneg (by omega)
        have h2:=Int.emod_nonneg (r+(i:Int)) (show (i:Int)≠0 by omega)
        have h3:=Int.emod_lt_of_pos (r+(i:Int)) (show (0:Int)<(i:Int) by omega)
        exact ⟨((r+(i:Int)) % (i:Int)).toNat,by rw [h1]; omega,by omega⟩
       obtain ⟨A,hA1,hA2⟩:=hA
       have hs:∃ s:Int,tz.tmod ((i:Int) - (A:Int)+1)=s∧-((i:Int) - (A:Int)+1)<s∧s<(i:Int) - (A:Int)+1:=⟨_,rfl,Int.lt_tmod_of_pos tz (by omega),Int.tmod_lt_of_pos tz (by omega)⟩
       obtain ⟨s,hs1,hs2,hs3⟩:=hs
       have hB:∃ B:Nat,(s+(i:Int) - (A:Int)+1).tmod ((i:Int) - (A:Int)+1)=(B:Int)∧(B:Int)<(i:Int) - (A:Int)+1:=by
        have h1:(s+(i:Int) - (A:Int)+1).tmod ((i:Int) - (A:Int)+1)=(s+(i:Int) - (A:Int)+1) % ((i:Int) - (A:Int)+1):=Int.tmod_eq_emod_of_nonneg (by omega)
        have h2:=Int.emod_nonneg (s+(i:Int) - (A:Int)+1) (show ((i:Int) - (A:Int)+1)≠0 by omega)
        have h3:=Int.emod_lt_of_pos (s+(i:Int) - (A:Int)+1) (show (0:Int)<(i:Int) - (A:Int)+1 by omega)
        exact ⟨((s+(i:Int) - (A:Int)+1) % ((i:Int) - (A:Int)+1)).toNat,by rw [h1]; omega,by omega⟩
       obtain ⟨B,hB1,hB2⟩:=hB
       have HC:=keep (show Calls Tryz.prog 18 #[.slice (some ⟨b1,o1+A * 3,none⟩) B (c - A)] wq fun e w'=>e=.returned (.tuple #[.int .i64 0,.int .i64 0])∧Below wq.heap.size wq w' from by
        have hBn:B≤i - A:=by omega
        have hlen:((l.drop A).take B).length=B:=by rw [List.length_take,List.length_drop,HN.out,Nat.min_eq_left hBn]
        have h9:=entry_Check ((l.drop A).take B) (some ⟨b1,o1+A * 3,none⟩) (c - A) wq (by rw [hlen]; omega) (by rw [List.map_take,List.map_drop]; exact rows_takeE (rows_dropE (HR.out.below HQ.out.bel) A) B) (HE.out.below HQ.out.bel).1
        rw [hlen,chk_part A B HALL.out] at h9
        exact h9)
       go_wp2_with fail
       refine HC.out.mono ?_
       rintro e w2 ⟨rfl,hb⟩
       have H2:=Lib.hid (HQ.out.below hb)
       clear hb HQ HC
       go_wp2_with fail
       refine (HKN.out w2 (HE.out.below H2.out.bel)).mono ?_
       rintro e w3 ⟨rfl,hb⟩
       have H3:=Lib.hid (H2.out.below hb)
       clear hb
       go_wp2_with fail
       go_ret
       exact ⟨rfl,H3.out.bel⟩
   ·have HT0:=keep (fun (m:Nat) (hm:m≤f)=>chk_take_ok (l:=l) (m:=m) fun j _ hj=>hbef j (by omega))
    have HT1:=keep (fun (m:Nat) (hm:f<m)=>chk_take_at (l:=l) (m:=m) hf hm hne hbef)
    have HF:=keep hf
    rw [HN.out] at hf
    rw [hcf] at HCK
    obtain ⟨q,hq⟩:∃ q,fauAt l f=q:=⟨_,rfl⟩
    rw [hq] at HCK HT1 hne
    clear hcf hbef hq
    go_wp2_with fail
    refine (HCK.out w (Below.refl _ _)).mono ?_
    rintro e w1 ⟨rfl,hb⟩
    have H1:=Lib.hid (H0.out.below hb)
    clear hb H0
    have hq0:(q == 0)=false:=by simp; exact hne
    go_wp2_with fail
    go_loopw [10] (fun mv wr=>∃ m:Nat,m≤i+1∧mv=.int .i64 (m:Int)∧Hid (Ok w [] wr)) (fun mv _=>i+1 - (intOf mv).toNat)
    case atStart=>exact ⟨0,Nat.zero_le _,rfl,H1⟩
    case round =>
     clear H1
     obtain ⟨m,hm,rfl,HQ⟩:=hrel
     obtain ⟨wq,rfl⟩:∃ wq:World,wq=wr:=⟨_,rfl⟩
     by_cases hmi:(m:Int)≤(i:Int)
     ·have hmc:(m:Int)≤(c:Int):=by omega
      have HC:=keep (HCT.out m (by omega) wq HQ.out.bel)
      by_cases hfm:(f:Int)<(m:Int)
      ·rw [HT1.out m (by omega)] at HC
       go_wp2_with fail
       refine HC.out.mono ?_
       rintro e w2 ⟨rfl,hb⟩
       have H2:=Lib.hid (HQ.out.below hb)
       clear hb HQ HC
       go_wp2_with fail
       go_roundw
       case rel=>exact ⟨m+1,by omega,by go_num,H2⟩
       case measure=>simp [intOf]; omega
      ·rw [HT0.out m (by omega)] at HC
       go_wp2_with fail
       refine HC.out.mono ?_
       rintro e w2 ⟨rfl,hb⟩
       have H2:=Lib.hid (HQ.out.below hb)
       clear hb HQ HC
       go_wp2_with fail
       go_roundw
       case rel=>exact ⟨m+1,by omega,by go_num,H2⟩
       case measure=>simp [intOf]; omega
     ·go_wp2_with fail
      refine (HKN.out wq (HE.out.below HQ.out.bel)).mono ?_
      rintro e w1 ⟨rfl,hb⟩
      have H2:=Lib.hid (HQ.out.below hb)
      clear hb
      go_wp2_with fail
      go_ret
      exact ⟨rfl,H2.out.bel⟩
set_option maxRecDepth 100000
theorem fl_intE:Flat Tryz.prog 3 [.int .i64]:=.int (by kernel_rfl)
theorem fl_strE:Flat Tryz.prog 9 [.str]:=.str (by kernel_rfl)
theorem fl_addrE:Flat Tryz.prog 49 [.int .i64,.int .i64] :=
 flat_struct [[.int .i64],[.int .i64]] Tryz.underlying49 ⟨⟨fl_intE,by kernel_rfl⟩,⟨fl_intE,by kernel_rfl⟩,trivial⟩ ⟨rfl,rfl,trivial⟩ (by kernel_rfl)
def entL:List Lf:=[.int .i64,.int .i64,.str]
theorem fl_ent:Flat Tryz.prog 51 entL :=
 flat_struct [[.int .i64,.int .i64],[.str]] Tryz.underlying51 ⟨⟨fl_addrE,by kernel_rfl⟩,⟨fl_strE,by kernel_rfl⟩,trivial⟩ ⟨rfl,rfl,trivial⟩ (by kernel_rfl)
theorem threeE {cs:List Value} (h:cs.length=3):∃ v0 v1 v2,cs=[v0,v1,v2]:=by
 match cs,h with
 | [v0,v1,v2],_=>exact ⟨_,_,_,rfl⟩
theorem row_ent {r:List Value} (h:OkL entL r):∃ a:En3,enRow a=r:=by
 obtain ⟨v0,v1,v2,rfl⟩:=threeE (show r.length=3 from h.len)
 obtain ⟨⟨n0,e0,-⟩,⟨n1,e1,-⟩,⟨s,e2,-⟩,-⟩:=h
 subst e0 e1 e2
 exact ⟨⟨n0,n1,s.data.toList⟩,rfl⟩
theorem ents_given {H:Type} {enc:TypeId×Value→H} {w:World} {base:Nat} {spare:Nat→Bool} {held:Bool} {fuel:Nat} {A:Option Addr} {n c:Nat} {x:DataW H×List MemPlace}
  (h:DataW.trod enc Tryz.prog w base spare held fuel 54 (Value.slice A n c).cells.toList=some x):∃ t:List En3,t.length=n∧RowsAt w A 3 (t.map enRow)∧n≤c:=by
 obtain ⟨rows,hl,hr,hok,h1,-⟩:=rows_given (e:=51) (ls:=entL) (by kernel_rfl) fl_ent (by kernel_rfl) (by decide) h
 have key:∀ l:List (List Value),(∀ r∈l,OkL entL r)→∃ t:List En3,t.map enRow=l:=by
  intro l
  induction l with
  | nil=>intro _; exact ⟨[],rfl⟩
  | cons r l ih =>
   intro hl
   obtain ⟨a,ha⟩:=row_ent (hl r (by simp))
   obtain ⟨t,ht⟩:=ih fun r hr=>hl r (by simp [hr])
   exact ⟨a::t,by rw [List.map_cons,ha,ht]⟩
 obtain ⟨t,ht⟩:=key rows hok
 refine ⟨t,by rw [← hl,← ht,List.length_map],by rw [ht]; exact hr,h1⟩
theorem EntryParts_walk (a:Option Addr) (n c:Nat) (l:List En3) (fr tz:Int) (w:World) (hl:l.length=n) (hr:RowsAt w a 3 (l.map enRow)) (hnc:n≤c) (_h1:(Lit.int .i64 fr).wf=true) (_h2:(Lit.int .i64 tz).wf=true) (hL:laidMetH Tryz.prog Rows.entryPartsRow.laid w) (hS:w.ShapedOpen Tryz.prog) :
  Calls Tryz.prog 7 #[.slice a n c,.int .i64 fr,.int .i64 tz] w fun e w'=>e=.returned (.bool true)∧Below w.heap.size w w':=by
 subst hl
 exact law_EntryParts l a c fr tz w hr hnc (env10_of hL hS (by kernel_rfl) (by kernel_rfl))
