/- The reference's outline, Formula and Outline. ShowFormulas: the walk. -/
import Derived.Test.YtdplcdhpnmcdjaaGreatDoorFRty
import Derived.Test.YtdplcdhpnmcdjaaGreatDoorFTg
import Derived.Test.YtdplcdhpnmcdjaaGreatDoorFOut
import Derived.Test.YtdplcdhpnmcdjaaGreatDoorFRpw
import Derived.Test.YtdplcdhpnmcdjaaGreatDoorFRds
import Derived.Test.YtdplcdhpnmcdjaaGreatDoorFParP
namespace Go.Proofs.YtdplcdhpnmcdjaaGreatDoor
set_option maxRecDepth 100000
set_option maxHeartbeats 8000000
open Go.RowKit Go.Proofs.Tryz
theorem nM {W:World} {B B' n m:Nat} {v s:Value} {xs news:List Value} (hv:W.ownsRow B 9 1 v n xs) (hs:W.ownsRow B' 9 1 s m news) (h1:∀ u∈news,u.oneCell'=true) (hB:B≤W.heap.size) (hn:n+m≤4194304) :
  ∃ v' w',(Builtin.append_ #[27,27] 27 #[v,s]).run prog W=.ok v' w'∧w'.ownsRow B 9 1 v' (n+m) (xs++news)∧W.grownBy w' v.ownBlock∧(v'.ownBlock=none∨v'.ownBlock=v.ownBlock∨v'.ownBlock=some W.heap.size):=by
 obtain ⟨i0,hi0,hz0,hz1,hzb⟩:=info_parts jL
 have hc:=@World.ownsRow.cells _ _ _ _ _ _ _ hs
 have hlen:=hs.1
 rcases hs.2 with ⟨rfl,rfl⟩ | ⟨g,cap,cur,rfl,_⟩
 ·obtain rfl:news=[]:=List.eq_nil_of_length_eq_zero (by simpa using hlen)
  refine ⟨v,W,run_append_owned_none (P:=prog) (w:=W) B 27 27 9 i0 1 underlying27 hi0 v n xs hv,by rw [List.append_nil]; exact hv,⟨rfl,rfl,rfl,Nat.le_refl _,fun _ _ _=>rfl⟩,.inr (.inl rfl)⟩
 obtain ⟨v',w',hr,ho,hg,_,hat⟩:=run_append_own_at (P:=prog) W B 27 27 9 i0 _ 1 16 underlying27 hi0 hz0 hz1 hzb rfl (by omega) v n xs hv ⟨g,0,none⟩ m cap news hlen (hc rfl) h1 (by unfold maxLen; omega) (by omega) hB
 exact ⟨v',w',hr,ho,hg,.inr hat⟩
theorem tB (a b:List (List UInt8)):bH (a++b)=bH a++bH b:=by unfold bH; rw [List.map_append]
theorem tC (l:List (List UInt8)):∀ u∈bH l,u.oneCell'=true:=by
 intro u hu
 unfold bH at hu
 obtain ⟨x,-,rfl⟩:=List.mem_map.1 hu
 rfl
def l7 (lvl:Nat):ByteArray:=byt (List.replicate (2 * lvl) 32)
theorem sL (lvl:Nat):l7 (lvl+1)=l7 lvl++⟨#[32,32]⟩:=by
 unfold l7
 rw [show 2 * (lvl+1)=2 * lvl+2 by omega,← List.replicate_append_replicate]
 show byt (_++[32,32])=_
 show (⟨_⟩:ByteArray)=(⟨_⟩:ByteArray)++⟨[32,32].toArray⟩
 rw [bytes_append]
theorem sK (lvl:Nat):(l7 lvl).size=2 * lvl:=by
 unfold l7
 show (List.replicate (2 * lvl) (32:UInt8)).toArray.size=_
 simp
theorem uN (lvl:Nat) (o:List UInt8):byt (eH (lvl,o))=l7 lvl++⟨o.toArray⟩:=by
 unfold l7
 show byt (List.replicate (2 * lvl) 32++o)=_
 show (⟨_⟩:ByteArray)=(⟨_⟩:ByteArray)++⟨_⟩
 rw [bytes_append]
def LnR (l:List (List UInt8)) (w:World) (e:Ending) (w':World):Prop:=∃ v,e=.returned v∧w'.ownsRow w.heap.size 9 1 v l.length (bH l)∧Below w.heap.size w w'
def pI (t:List Nd) (tb tz tc:Nat) (pa:Option Addr) (pc i:Nat):Prop:=∀ (w:World) (lvl:Nat),RIn t tb tz pa w→lvl+i≤1000→(bK t i lvl).length≤100000 →
 Calls prog 30 #[.slice (some ⟨tb,tz,none⟩) t.length tc,.slice pa t.length pc,.int .i64 (i:Nat),.string (l7 lvl)] w (LnR (bK t i lvl) w)
theorem yF (t:List Nd) (tb tz tc:Nat) (pa:Option Addr) (pc i:Nat) (hc:cQ t) (hi:i<t.length) (IH:∀ j,j<i→pI t tb tz tc pa pc j):pI t tb tz tc pa pc i:=by
 intro w lvl hin hlv hll
 obtain ⟨n,hn⟩:∃ n,t[i]?=some n:=⟨_,List.getElem?_eq_getElem hi⟩
 have hg:=hc.good n (List.mem_of_getElem? hn)
 have hcl:=hin.node hn
 have HSTEP:=keep (fun m (h:m<(ae t i).length)=>ot (lvl:=lvl) (L:=[]) (n:=n) h)
 have HLE:=keep (fun m=>uQ (L:=[]) (lvl:=lvl) hn m)
 have HALL:=keep (show lnK t i lvl [] n (ae t i).length=bK t i lvl from rF (L:=[]) (lvl:=lvl) hn)
 have hos:=jk hg.1 hg.2
 have HWD:=keep (fun W:World=>cw n hg.1 hg.2 W)
 have HKID:=keep (fun (W:World) (h:RIn t tb tz pa W)=>dN (pc:=pc) hc hi h)
 obtain ⟨LK,hLK⟩:∃ LK:Nat→List (List UInt8),lnK t i lvl [] n=LK:=⟨_,rfl⟩
 have hone:LK 0=[eH (lvl,bn n)]:=by rw [← hLK]; unfold lnK; rw [List.take_zero,List.flatMap_nil]; rfl
 rw [hLK] at HSTEP HLE HALL
 have HLL2:=keep (fun m (h:m<(ae t i).length)=>show (LK m).length+(bK t ((ae t i)[m]) (lvl+1)).length≤100000 by
  have h8:=HLE.out (m+1)
  rw [HSTEP.out m h,List.length_append] at h8
  simp only [List.length_nil,Nat.zero_add] at h8
  omega)
 rw [← HALL.out]
 obtain ⟨I,hI⟩:=ex (l7 lvl)
 obtain ⟨O,hO⟩:∃ O:ByteArray,⟨(bn n).toArray⟩=O:=⟨_,rfl⟩
 have HONE:=keep (show LK 0=[eH (lvl,bn n)]∧byt (eH (lvl,bn n))=I++O from ⟨hone,by rw [← hI,← hO]; exact uN lvl _⟩)
 have zO:O.size≤1000000:=by rw [← hO]; show (bn n).toArray.size≤_; rw [List.size_toArray]; omega
 have zI:I.size≤1000000:=by rw [← hI,sK]; omega
 have z32:(⟨#[32,32]⟩:ByteArray).size=2:=rfl
 have HIH:=keep (fun m (h:m<(ae t i).length) (W:World) (hW:RIn t tb tz pa W)=>by
  have h9:=IH ((ae t i)[m]) (bw t i _ (List.getElem_mem h)) W (lvl+1) hW (by have:=bw t i _ (List.getElem_mem h); omega) (by have:=HLL2.out m h; omega)
  rw [sL,hI] at h9
  exact h9)
 have HIN:=keep hin
 obtain ⟨P,hP⟩:∃ P:Ending→World→Prop,LnR (LK (ae t i).length) w=P:=⟨_,rfl⟩
 rw [hP,hI]
 have HPP:=keep hP
 have HKS:=keep (show (ae t i).length≤16 from lx hc hn)
 obtain ⟨K,hK⟩:=ex ((ae t i).length)
 rw [hO] at HWD
 obtain ⟨tl,htl⟩:=ex (t.length)
 have hki:(i:Int)<(tl:Int):=by omega
 rw [htl] at HKID HIH ⊢
 have hk16:=HKS.out
 rw [hK] at hk16
 have HKE:=keep hK
 clear hP hI hO hLK hone hc hi IH hin hlv hll hn hg hos htl hK
 obtain ⟨nk,vk,vn,vt,⟨r1,r2,r3,r4⟩,op,fn,nn⟩:=n
 have H1:=Lib.hid ((Ok.start w).add (aa tb (tz+i * 11) [.int .u8 nk,.int .u8 vk,.int .i64 vn,.string ⟨vt.toArray⟩,.int .i64 r1,.int .i64 r2,.int .i64 r3,.int .i64 r4,.int .i64 op,.int .u8 fn,.int .i64 nn]) hcl)
 clear hcl
 go_enter func30,ntmps30
 have F1:=sE H1
 go_wp2_with fail
 refine cM (HWD.out _) H1 fun w2 H4=>?_
 clear F1 H1
 have HB2:=Lib.hid H4.out.bel
 clear H4
 go_wp2_with fail
 have hW1:(w2.alloc (.cells #[.string (I++O)] 9)).ownsRow w.heap.size 9 1 (.slice (some ⟨w2.heap.size,0,none⟩) 1 1) 1 [.string (I++O)]:=World.ownsRow_lit _ #[.string (I++O)] 1 HB2.out.size (by decide) rfl
 have HS1:=Lib.hid (show aj w [] 9 1 (.slice (some ⟨w2.heap.size,0,none⟩) 1 1) 1 [.string (I++O)] (w2.alloc (.cells #[.string (I++O)] 9)) from ⟨(((Ok.start w).below HB2.out).alloc_obj _).drop _ (by simp),hW1,by simp⟩)
 clear hW1
 refine (HKID.out _ (HIN.out.below HS1.out.ok.bel)).mono ?_
 rintro e w4 ⟨kv,rfl,hrow,hb4⟩
 obtain ⟨ka,kc,hkv⟩:=aO hrow
 rw [HKE.out] at hkv
 subst hkv
 have HR:=Lib.hid (aj.of_new HS1.out.pers hb4 hrow).swapR
 clear hb4 hrow HS1 HB2
 have HR0:=Lib.hid (show aj w [aT w.heap.size 3 1 (.slice ka K kc) (ae t i).length ((ae t i).map fun x=>.int .i64 (x:Nat))] 9 1 (.slice (some ⟨w2.heap.size,0,none⟩) 1 1) (LK 0).length (bH (LK 0)) w4 from by
  rw [HONE.out.1]
  show aj _ _ _ _ _ 1 [.string (byt (eH (lvl,bn _)))] _
  rw [HONE.out.2]
  exact HR.out)
 clear HR
 go_wp2_with fail
 go_loopw [9,11] (fun sv kv wr=>∃ m:Nat,m≤K∧kv=.int .i64 (m:Int)∧Hid (aj w [aT w.heap.size 3 1 (.slice ka K kc) (ae t i).length ((ae t i).map fun x=>.int .i64 (x:Nat))] 9 1 sv (LK m).length (bH (LK m)) wr)) (fun _ kv _=>K - (intOf kv).toNat)
 case atStart=>exact ⟨0,Nat.zero_le _,rfl,HR0⟩
 case round =>
  clear HR0
  obtain ⟨m,hmk,rfl,HQ⟩:=hrel
  obtain ⟨wq,rfl⟩:∃ wq:World,wq=wr:=⟨_,rfl⟩
  by_cases hlm:(m:Int)<(K:Int)
  ·have hml:m<(ae t i).length:=by rw [HKE.out]; omega
   have HST:=keep (HSTEP.out m hml)
   have HLM:=keep (HLL2.out m hml)
   have HIM:=keep (HIH.out m hml)
   obtain ⟨j,hj⟩:=ex ((ae t i)[m]'hml)
   rw [hj] at HST HLM HIM
   have hro:=HQ.out.ok.get (aT w.heap.size 3 1 (.slice ka K kc) (ae t i).length ((ae t i).map fun x=>.int .i64 (x:Nat))) (by simp)
   obtain ⟨g,cap,e4,hgl,-⟩:=(show World.ownsRow _ _ _ _ _ _ _ from hro).form (by omega)
   injection e4 with e5 e6 e7
   subst e5 e7
   clear e6
   have kc0:=(show World.ownsRow _ _ _ _ _ _ _ from hro).cells (g:=g) rfl m _ (by rw [List.getElem?_map,List.getElem?_eq_getElem hml]; rfl)
   rw [fM,hj] at kc0
   have hglt:=((show World.ownsRow _ _ _ _ _ _ _ from hro).lt g rfl).2
   obtain ⟨sa,sc,hsv⟩:=aO HQ.out.own
   obtain ⟨ln,hln⟩:=ex ((LK m).length)
   rw [hln] at HQ HLM hsv
   subst hsv
   have HLN:=keep hln
   clear hj hro hgl hml hln
   go_wp2_with fail
   refine (HIM.out _ (HIN.out.below HQ.out.ok.bel)).mono ?_
   rintro e w5 ⟨v2,rfl,ho2,hb5⟩
   have HQ5:=Lib.hid (HQ.out.below hb5)
   obtain ⟨a2,c2,hv2⟩:=aO ho2
   have h100:=HLM.out
   obtain ⟨v7,w7,hr7,ho7,hg7,hat7⟩:=nM HQ5.out.own ho2 (tC _) HQ5.out.ok.bel.size (by omega)
   have HO7:=Lib.hid (HQ5.out.grown ho7 hg7 hat7)
   subst hv2
   clear ho7 hg7 hat7 ho2 hb5 HQ HQ5 h100 kc0 hglt
   go_wp2_with (at_builtin; refine gU rfl _ _ _ rfl _ _ rfl rfl hr7 ?_; clear hr7)
   go_roundw
   case rel=>exact ⟨m+1,by omega,by go_num,Lib.hid (by rw [HST.out,List.length_append,HLN.out,tB]; exact HO7.out)⟩
   case measure=>simp [intOf]; omega
  obtain rfl:K=m:=by omega
  go_wp2_with fail
  first
   | go_ret
   | skip
  rw [← HPP.out]
  exact ⟨_,rfl,by rw [HKE.out]; exact HQ.out.own,HQ.out.ok.bel⟩
theorem o3 (t:List Nd) (tb tz tc pc:Nat) (pa:Option Addr) (hc:cQ t):∀ i,i<t.length→pI t tb tz tc pa pc i:=by
 intro i
 induction i using Nat.strongRecOn with
 | _ i ih =>
  intro hi
  exact yF t tb tz tc pa pc i hc hi fun j hj=>ih j hj (by omega)
theorem zsz {t:List NdA} (hs:ASz t) (hl:∀ a∈t,-9223372036854775808≤a.vn∧a.fn≤255):∀ a∈t,a.vt.length≤4611686018427387904∧-9223372036854775808≤a.vn∧a.fn≤255:=fun a ha=>⟨hs.txt a ha,hl a ha⟩
theorem mF {t:List NdA} {ta:Option Addr} {tc:Nat} {w:World} (hs:ASz t) (hin:ap w ta 11 (t.map bd)) (hc:az t=0) :
  ∃ tb tz,ta=some ⟨tb,tz,none⟩∧ap w (some ⟨tb,tz,none⟩) 11 ((t.map NdA.nd).map bj)∧cQ (t.map NdA.nd)∧t≠[]∧(∃ p,cO (t.map NdA.nd) 0 (t.map NdA.nd) []=.ok [p]) ∧
   Calls prog 28 #[.slice ta t.length tc] w fun e w'=>∃ pa pc,e=.returned (.slice pa t.length pc)∧RIn (t.map NdA.nd) tb tz pa w'∧Below w.heap.size w w':=by
 obtain ⟨he,hk,h0,p,hw,-⟩:=jy hc hs.num
 obtain ⟨tb,tz,e,-,-⟩:=hin (by simpa using h0)
 have hrows:ap w (some ⟨tb,tz,none⟩) 11 ((t.map NdA.nd).map bj):=by
  have h9:=hin
  rw [e,he,fk] at h9
  exact h9
 refine ⟨tb,tz,e,hrows,hk,h0,⟨p,hw⟩,?_⟩
 have h:=nw (t.map NdA.nd) (some ⟨tb,tz,none⟩) tc w hrows (by have:=hk.len; omega) (fun k n hn=>by
  have h9:=hk.kids k n hn
  rw [cZ hn,List.length_drop] at h9
  omega)
 rw [List.length_map] at h
 rw [e]
 refine h.mono ?_
 rintro e2 w' ⟨v,rfl,h1,h2⟩
 have hl:=ed (t.map NdA.nd) t.length
 rw [show t.length=(gj (t.map NdA.nd) t.length).length from hl.symm] at h1
 obtain ⟨a,c,rfl,-,h4⟩:=uI (by
  have h9:=h1
  rw [hl] at h9
  rw [hl]
  exact h9)
 refine ⟨a,c,by rw [hl],⟨hrows.below h2,?_⟩,h2⟩
 rw [List.length_map]
 exact h4
theorem mc (t:List NdA) (ta:Option Addr) (tc:Nat) (w:World) (hs:ASz t) (hl:∀ a∈t,-9223372036854775808≤a.vn∧a.fn≤255) (hin:ap w ta 11 (t.map bd)) :
  Calls prog 9 #[.slice ta t.length tc] w fun e w'=>e=.returned (.tuple #[.string ⟨(fH t).1.toArray⟩,.int .i64 (fH t).2])∧Below w.heap.size w w':=by
 have HCK:=keep (kD t ta tc w hin hs.len (zsz hs hl))
 obtain ⟨tl,htl⟩:=ex (t.length)
 by_cases hc:az t=0
 ·have HST:=keep (fun (w2:World) (h:ap w2 ta 11 (t.map bd))=>mF (tc:=tc) hs h hc)
  obtain ⟨tb,tz,rfl,-,hk,h0,⟨p,hw⟩,-⟩:=HST.out w hin
  have HPAR:=keep (fun (w2:World) (h:ap w2 (some ⟨tb,tz,none⟩) 11 (t.map bd))=>show Calls prog 28 #[.slice (some ⟨tb,tz,none⟩) t.length tc] w2 fun e w'=>∃ pa pc,e=.returned (.slice pa t.length pc)∧RIn (t.map NdA.nd) tb tz pa w'∧Below w2.heap.size w2 w' from by
   obtain ⟨tb',tz',e,-,-,-,-,h9⟩:=HST.out w2 h
   injection e with e
   injection e with e1 e2
   subst e1 e2
   exact h9)
  have hpos:0<t.length:=List.length_pos_iff.2 h0
  have hne:t.map NdA.nd≠[]:=by simpa using h0
  have htx:(aD (t.map NdA.nd) (tl - 1)).1=ck (t.map NdA.nd):=by
   have:=(eQ hw hne).2.2.1
   rw [List.length_map,htl] at this
   exact this.symm
  have hlen:=j8 _ hk.good (tl - 1) (by rw [List.length_map]; omega)
  rw [htx] at hlen
  have hkl:=hk.len
  obtain ⟨S,hS⟩:=ex (ck (t.map NdA.nd))
  have HTX:=keep (fun pa pc w2 (h:RIn (t.map NdA.nd) tb tz pa w2)=>by
   have:=vE (t.map NdA.nd) tb tz tc pc pa hk (tl - 1) (by rw [List.length_map]; omega) w2 h
   rw [htx,hS,List.length_map,htl] at this
   exact this)
  have HIN:=keep hin
  have hsz:S.length≤100000000:=by rw [← hS]; omega
  rw [htl] at HPAR
  rw [hc,htl] at HCK
  have hp1:0<tl:=by omega
  obtain ⟨l1,hl1⟩:=ex (tl - 1)
  rw [hl1] at HTX
  have hi1:IntKind.i64.wrap ((tl:Int) - 1)=(l1:Int):=by rw [Go.IntWalk.i64_in _ (by have:=hs.len; omega)]; omega
  rw [htl]
  have hss:(⟨S.toArray⟩:ByteArray).size=S.length:=by show S.toArray.size=_; simp
  by_cases h256:256<S.length
  ·have hf:=lM hc (by rw [hS]; exact h256)
   rw [hf]
   have hgt:(((⟨S.toArray⟩:ByteArray).size:Nat):Int)>256:=by rw [hss]; omega
   obtain ⟨X,hX⟩:∃ X:ByteArray,⟨S.toArray⟩=X:=⟨_,rfl⟩
   rw [hX] at HTX hgt
   clear hf h256 hss hX hsz hlen htx hw hne hpos h0 hk hin hS hc hs hl HST
   go_enter func9,ntmps9
   go_wp2_with fail
   refine HCK.out.mono ?_
   rintro e w1 ⟨rfl,hb⟩
   have HB:=Lib.hid hb
   have HI2:=keep (HIN.out.below hb)
   clear hb
   go_wp2_with fail
   refine (HPAR.out _ HI2.out).mono ?_
   rintro e w2 ⟨pa,pc,rfl,hri,hb⟩
   have HRI:=keep hri
   have HB2:=Lib.hid (am HB.out hb)
   clear hb hri
   go_wp2_with fail
   refine (HTX.out pa pc _ HRI.out).mono ?_
   rintro e w3 ⟨rfl,hb⟩
   have HB3:=Lib.hid (am HB2.out hb)
   clear hb
   go_wp2_with fail
   exact bodyPost_ret (v:=.tuple #[.string ⟨#[]⟩,.int .i64 5]) (by simp [results,results9,go_sem]) rfl ⟨rfl,HB3.out⟩
  have hf:=lN hc (by rw [hS]; exact h256)
  rw [hf,hS]
  have hgt:¬ (((⟨S.toArray⟩:ByteArray).size:Nat):Int)>256:=by rw [hss]; omega
  obtain ⟨X,hX⟩:∃ X:ByteArray,⟨S.toArray⟩=X:=⟨_,rfl⟩
  show Calls _ _ _ _ fun e w'=>e=.returned (.tuple #[.string ⟨S.toArray⟩,.int .i64 0])∧Below w.heap.size w w'
  rw [hX] at HTX hgt ⊢
  clear hf h256 hss hX hsz hlen htx hw hne hpos h0 hk hin hS hc hs hl HST
  go_enter func9,ntmps9
  go_wp2_with fail
  refine HCK.out.mono ?_
  rintro e w1 ⟨rfl,hb⟩
  have HB:=Lib.hid hb
  have HI2:=keep (HIN.out.below hb)
  clear hb
  go_wp2_with fail
  refine (HPAR.out _ HI2.out).mono ?_
  rintro e w2 ⟨pa,pc,rfl,hri,hb⟩
  have HRI:=keep hri
  have HB2:=Lib.hid (am HB.out hb)
  clear hb hri
  go_wp2_with fail
  refine (HTX.out pa pc _ HRI.out).mono ?_
  rintro e w3 ⟨rfl,hb⟩
  have HB3:=Lib.hid (am HB2.out hb)
  clear hb
  go_wp2_with fail
  exact bodyPost_ret (v:=.tuple #[.string X,.int .i64 0]) (by simp [results,results9,go_sem]) rfl ⟨rfl,HB3.out⟩
 rw [mJ hc]
 obtain ⟨c,hcc⟩:=ex (az t)
 rw [hcc] at HCK hc ⊢
 have hcb:(c != 0)=true:=by simpa using hc
 rw [htl] at HCK ⊢
 clear hcc hc hin hs htl hl
 go_enter func9,ntmps9
 go_wp2_with fail
 refine HCK.out.mono ?_
 rintro e w1 ⟨rfl,hb⟩
 have HB:=Lib.hid hb
 clear hb
 go_wp2_with fail
 exact bodyPost_ret (v:=.tuple #[.string ⟨#[]⟩,.int .i64 c]) (by simp [results,results9,go_sem]) rfl ⟨rfl,HB.out⟩
theorem mf (t:List NdA) (ta:Option Addr) (tc:Nat) (w:World) (hs:ASz t) (hl:∀ a∈t,-9223372036854775808≤a.vn∧a.fn≤255) (hin:ap w ta 11 (t.map bd)) :
  Calls prog 11 #[.slice ta t.length tc] w (nK t w):=by
 have HCK:=keep (kD t ta tc w hin hs.len (zsz hs hl))
 obtain ⟨P,hP⟩:∃ P:Ending→World→Prop,nK t w=P:=⟨_,rfl⟩
 rw [hP]
 have HPP:=keep hP
 clear hP
 obtain ⟨tl,htl⟩:=ex (t.length)
 by_cases hc:az t=0
 ·have HST:=keep (fun (w2:World) (h:ap w2 ta 11 (t.map bd))=>mF (tc:=tc) hs h hc)
  obtain ⟨tb,tz,rfl,-,hk,h0,⟨p,hw⟩,-⟩:=HST.out w hin
  have HPAR:=keep (fun (w2:World) (h:ap w2 (some ⟨tb,tz,none⟩) 11 (t.map bd))=>show Calls prog 28 #[.slice (some ⟨tb,tz,none⟩) t.length tc] w2 fun e w'=>∃ pa pc,e=.returned (.slice pa t.length pc)∧RIn (t.map NdA.nd) tb tz pa w'∧Below w2.heap.size w2 w' from by
   obtain ⟨tb',tz',e,-,-,-,-,h9⟩:=HST.out w2 h
   injection e with e
   injection e with e1 e2
   subst e1 e2
   exact h9)
  have hpos:0<t.length:=List.length_pos_iff.2 h0
  have hne:t.map NdA.nd≠[]:=by simpa using h0
  have hol:bK (t.map NdA.nd) (tl - 1) 0=olS t:=by
   have:=(eQ hw hne).2.2.2
   rw [List.length_map,htl] at this
   rw [jR hc,this]
   rfl
  have hlen:(olS t).length≤256:=by
   rw [jR hc,List.length_map,(jS _ hk.ndc (jF hc)).1]
   exact hk.len
  have hkl:=hk.len
  rw [List.length_map] at hkl
  have HOL:=keep (fun pa pc w2 (h:RIn (t.map NdA.nd) tb tz pa w2)=>by
   have:=o3 (t.map NdA.nd) tb tz tc pc pa hk (tl - 1) (by rw [List.length_map]; omega) w2 0 h (by omega) (by rw [hol]; omega)
   rw [hol,List.length_map,htl,show l7 0=⟨#[]⟩ from rfl] at this
   exact this)
  have HIN:=keep hin
  have HCZ:=keep hc
  rw [htl] at HPAR
  rw [hc,htl] at HCK
  have hp1:0<tl:=by omega
  obtain ⟨l1,hl1⟩:=ex (tl - 1)
  rw [hl1] at HOL
  have hi1:IntKind.i64.wrap ((tl:Int) - 1)=(l1:Int):=by rw [Go.IntWalk.i64_in _ (by omega)]; omega
  rw [htl]
  clear hlen hol hw hne hpos h0 hk hin hc hs hl HST
  go_enter func11,ntmps11
  go_wp2_with fail
  refine HCK.out.mono ?_
  rintro e w1 ⟨rfl,hb⟩
  have HB:=Lib.hid hb
  have HI2:=keep (HIN.out.below hb)
  clear hb
  go_wp2_with fail
  refine (HPAR.out _ HI2.out).mono ?_
  rintro e w2 ⟨pa,pc,rfl,hri,hb⟩
  have HRI:=keep hri
  have HB2:=Lib.hid (am HB.out hb)
  clear hb hri
  go_wp2_with fail
  refine (HOL.out pa pc _ HRI.out).mono ?_
  rintro e w3 ⟨v,rfl,hrow,hb⟩
  have HB3:=Lib.hid (am HB2.out hb)
  have HRW:=keep (hrow.mono HB2.out.size)
  clear hrow hb
  go_wp2_with fail
  rw [← HPP.out]
  exact ⟨v,by rw [HCZ.out]; rfl,HRW.out,HB3.out⟩
 obtain ⟨c,hcc⟩:=ex (az t)
 have HCZ:=keep hcc
 have HBAD:=keep (nq hc)
 rw [hcc] at HCK hc
 have hcb:(c != 0)=true:=by simpa using hc
 rw [htl] at HCK ⊢
 clear hcc hc hin hs htl hl
 go_enter func11,ntmps11
 go_wp2_with fail
 refine HCK.out.mono ?_
 rintro e w1 ⟨rfl,hb⟩
 have HB:=Lib.hid hb
 clear hb
 go_wp2_with fail
 rw [← HPP.out]
 exact ⟨.slice none 0 0,by rw [HCZ.out]; rfl,by rw [HBAD.out]; exact World.ownsRow_nil _ _ _ _,HB.out⟩
set_option maxRecDepth 100000
set_option maxHeartbeats 8000000
theorem jO (t0:List NdA) (a:Option Addr) (c:Nat) (w:World) (hr:ap w a 11 (t0.map bd)) (hnc:t0.length≤c) (hc:c≤maxLen) (hin:∀ n∈t0,mQ n) (he:cH w) :
  Calls prog 3 #[.slice a t0.length c] w fun e w'=>e=.returned (.bool true)∧Below w.heap.size w w':=by
 have HE:=keep he
 have HFW:=keep (Bh t0 a c w hr hnc hc)
 have HSZ:=keep (Ag hin)
 have HLO:=keep (show ∀ n∈few t0,-9223372036854775808≤n.vn∧n.fn≤255 from fun n hn=>⟨((lk hin n hn).1).num.1,((lk hin n hn).1).fnb⟩)
 have HFF:=keep (xi (pV t0) fun n hn=>(lk hin n hn).2)
 have HL3:=keep (pV t0)
 obtain ⟨n0,hn0⟩:=ex (t0.length)
 rw [hn0] at HFW ⊢
 generalize few t0=t at HFW HSZ HL3 HLO HFF
 clear hr hnc hc hin he hn0
 go_enter func3,ntmps3
 go_wp2_with fail
 refine HFW.out.mono ?_
 rintro e w1 ⟨u,rfl,hown,hb⟩
 obtain ⟨a1,c1,rfl,hlc,hcm,hrow⟩:=rG hown
 have HR:=keep hrow
 have H1:=Lib.hid ((Ok.start w).below hb)
 have HFW2:=keep (Bh t a1 c1 w1 hrow hlc hcm)
 rw [HFF.out] at HFW2
 clear hown hrow hb HFW hlc hcm
 go_wp2_with fail
 refine HFW2.out.mono ?_
 rintro e w2 ⟨u,rfl,hown,hb⟩
 obtain ⟨b1,d1,rfl,-,-,hrow⟩:=rG hown
 have HR1:=keep (HR.out.below hb)
 have HR2:=keep hrow
 have H2:=Lib.hid (H1.out.below hb)
 have HE2:=keep (HE.out.below H2.out.bel)
 have HLN:=keep (show (olS t).length≤1000 by
  by_cases hc:az t=0
  ·obtain ⟨-,hk,-,-⟩:=jy hc HSZ.out.num
   rw [jR hc,List.length_map,(jS _ hk.ndc (jF hc)).1]
   have:=hk.len
   omega
  rw [nq hc]; exact Nat.zero_le _)
 clear hown hrow hb HFW2 HR H1 HE HFF
 obtain ⟨X,hX⟩:∃ X:ByteArray,⟨(fH t).1.toArray⟩=X:=⟨_,rfl⟩
 obtain ⟨E,hE⟩:=ex ((fH t).2)
 obtain ⟨G,hG⟩:=ex (az t)
 obtain ⟨L,hL⟩:=ex (olS t)
 have HA:=keep (fun (W:World) (h1:ap W b1 11 (t.map bd)) (h2:cH W)=>jt t b1 d1 W HSZ.out ⟨h1,h2⟩)
 have HB:=keep (fun (W:World) (h1:ap W a1 11 (t.map bd))=>mc t a1 c1 W HSZ.out HLO.out h1)
 have HC:=keep (fun (W:World) (h1:ap W b1 11 (t.map bd)) (h2:cH W)=>ju t b1 d1 W HSZ.out ⟨h1,h2⟩)
 have HD:=keep (fun (W:World) (h1:ap W a1 11 (t.map bd))=>mf t a1 c1 W HSZ.out HLO.out h1)
 have HT:=keep (fun (W:World) (h1:ap W b1 11 (t.map bd)) (h2:ap W a1 11 (t.map bd))=>nS t t b1 a1 d1 c1 W HSZ.out.len HSZ.out.len h1 h2)
 unfold nK at HC HD
 rw [hX,hE] at HA HB
 rw [hG,hL] at HC HD
 rw [hL] at HLN
 rw [rm t] at HT
 clear hX hE hG hL
 obtain ⟨tn,htn⟩:=ex (t.length)
 rw [htn] at HA HB HC HD HT ⊢
 clear htn
 have HB2:=Lib.hid H2.out.bel
 clear H2
 go_wp2_with fail
 go_loopw [4] (fun rv wr=>∃ r:Nat,r≤2∧rv=.int .i64 (r:Int)∧Hid (Ok w2 [] wr)) (fun rv _=>2 - (intOf rv).toNat)
 case atStart=>exact ⟨0,by omega,rfl,Lib.hid (Ok.start w2)⟩
 case round =>
  obtain ⟨r,hr2,rfl,HQ⟩:=hrel
  obtain ⟨wq,rfl⟩:∃ wq:World,wq=wr:=⟨_,rfl⟩
  by_cases hlt:(r:Int)<2
  ·go_wp2_with fail
   refine cM (HA.out wq (HR2.out.below HQ.out.bel) (HE2.out.below HQ.out.bel)) HQ fun w3 H3=>?_
   clear HQ
   go_wp2_with fail
   refine cM (HB.out w3 (HR1.out.below H3.out.bel)) H3 fun w4 H4=>?_
   clear H3
   go_wp2_with fail
   refine (HC.out w4 (HR2.out.below H4.out.bel) (HE2.out.below H4.out.bel)).mono ?_
   rintro e w5 ⟨v,rfl,hown,hb⟩
   have H5:=Lib.hid (aj.of_new H4.out hb hown)
   clear hb hown H4
   go_wp2_with fail
   refine (HD.out w5 (HR1.out.below H5.out.ok.bel)).mono ?_
   rintro e w6 ⟨v2,rfl,hown,hb⟩
   obtain ⟨a6,c6,rfl,-,hrow6⟩:=lS hown
   have HM:=keep hrow6
   have H6:=Lib.hid (H5.out.below hb)
   clear hb hown hrow6 H5
   obtain ⟨a5,c5,hv,-,hrow5⟩:=lS H6.out.own
   subst hv
   have HEQ:=keep (li L a5 a6 c5 c6 w6 (by have:=HLN.out; omega) hrow5 HM.out)
   obtain ⟨ln,hln⟩:=ex (L.length)
   rw [hln] at HEQ H6 HLN ⊢
   have HLL:=keep hln
   clear hrow5 HM hln
   go_wp2_with fail
   refine HEQ.out.mono ?_
   rintro e w7 ⟨rfl,hb⟩
   have H7:=Lib.hid (H6.out.below hb)
   clear hb H6 HEQ
   go_wp2_with fail
   refine cR (HT.out w7 (HR2.out.below H7.out.ok.bel) (HR1.out.below H7.out.ok.bel)) H7 fun w8 H8=>?_
   clear H7
   go_wp2_with fail
   have hl1:(ln:Int)≤1000:=by have:=HLN.out; omega
   go_loopw [13] (fun kv wr=>∃ (k:Nat) (xs:List Value),k≤ln∧kv=.int .i64 (k:Int)∧xs.length=ln∧Hid (aj w2 [] 9 1 (.slice a5 ln c5) ln xs wr)) (fun kv _=>ln - (intOf kv).toNat)
   case atStart=>exact ⟨0,bH L,Nat.zero_le _,rfl,by unfold bH; rw [List.length_map]; exact HLL.out,H8⟩
   case round =>
    clear H8
    obtain ⟨k,xs,hk,rfl,hxs,HK⟩:=hrel
    obtain ⟨wk,rfl⟩:∃ wk:World,wk=wr:=⟨_,rfl⟩
    by_cases hkl:(k:Int)<(ln:Int)
    ·obtain ⟨g,cap,e4,hgl,-⟩:=HK.out.own.form (by omega)
     injection e4 with e5 e6 e7
     subst e5 e7
     clear e6
     obtain ⟨old,hold⟩:∃ old,xs[k]?=some old:=⟨_,List.getElem?_eq_getElem (by omega)⟩
     have c5:=HK.out.own.cells (g:=g) rfl k _ hold
     rw [fM] at c5
     have f5:=HK.out.own.frozenAt k
     have HS:=Lib.hid (HK.out.stored_row k (.string ⟨#[120]⟩))
     have hglt:=(HK.out.own.lt g rfl).2
     have HXL:=keep hxs
     clear hxs hgl hold
     go_wp2_with fail
     go_roundw
     case rel=>exact ⟨k+1,xs.set k (.string ⟨#[120]⟩),by omega,by go_num,by rw [List.length_set]; exact HXL.out,HS⟩
     case measure=>simp [intOf]; omega
    obtain rfl:k=ln:=by omega
    go_wp2_with fail
    go_roundw
    case rel=>exact ⟨r+1,by omega,by go_num,Lib.hid HK.out.ok⟩
    case measure=>simp [intOf]; omega
  obtain rfl:r=2:=by omega
  go_wp2_with fail
  refine cM (oh wq (HE2.out.below HQ.out.bel)) HQ fun w9 H9=>?_
  clear HQ
  go_wp2_with fail
  go_ret
  exact ⟨rfl,am HB2.out H9.out.bel⟩
theorem iW (A:Option Addr) (n c:Nat) (t:List NdA) (w:World) (hl:t.length=n) (hr:ap w A 11 (t.map bd)) (hin:∀ a∈t,mQ a) (hnc:n≤c) (hc:c≤maxLen) (hL:laidMetH prog Rows.showFormulasRow.laid w) (hS:w.ShapedOpen prog) :
  Calls prog 3 #[.slice A n c] w fun e w'=>e=.returned (.bool true)∧Below w.heap.size w w':=by
 subst hl
 exact jO t A c w hr hnc hc hin (um hL hS (by kernel_rfl) (by kernel_rfl))
