/- tree.walk at any nodes, with any visitor. -/
import Derived.Test.YtdplcdhpnmcdjaaGreatDoorKGiv
import Derived.Test.YtdplcdhpnmcdjaaGreatDoorKTg
import Derived.Test.YtdplcdhpnmcdjaaGreatDoorKNdA
import Derived.Test.YtdplcdhpnmcdjaaGreatDoorKLexK
namespace Go.Proofs.YtdplcdhpnmcdjaaGreatDoor
set_option maxRecDepth 100000
set_option maxHeartbeats 16000000
open Go.RowKit Go.Proofs.Tryz
def AF (a:NdA):Prop:=∀ w,Calls prog 137 #[aA a] w fun e w'=>e=.returned (.int .i64 (ay a))∧Below w.heap.size w w'
def bf (B:Nat):aS where
 p w:=B≤w.heap.size
 s _:=True
 far _:=True
 st _ _ _ _ hb h:=Nat.le_trans h hb.size
 vis _ _:=trivial
 none_:=trivial
 new _ _ _ _:=trivial
structure jd (T:List Nd) (t:List NdA) (i:Nat) (st:List Pt):Prop where
 run:c8 T 0 t []=c8 T i (t.drop i) st
 low:∀ p∈st,p.root<i∧p.depth≤32
 roots:st.map (·.root)=aH T i
theorem jd.fbad {T:List Nd} {t:List NdA} {i:Nat} {st:List Pt} (h:jd T t i st) (hT:T=t.map NdA.nd) (hi:i<t.length) (hf:ay t[i]≠0):ci t=ay t[i]:=by
 unfold ci
 rw [← hT,h.run,List.drop_eq_getElem_cons hi,c8,if_pos hf]
theorem jd.bad {T:List Nd} {t:List NdA} {i:Nat} {st:List Pt} {e:Int} {n:Nd} (h:jd T t i st) (hT:T=t.map NdA.nd) (hi:i<t.length) (hn:t[i]=n.any) (hg:aL n) (hs:stepW T st i n=.error e):ci t=e:=by
 unfold ci
 rw [← hT,h.run,List.drop_eq_getElem_cons hi,c8,hn,if_neg (by rw [ft hg]; decide),jg,hs]
theorem jd.next {T:List Nd} {t:List NdA} {i:Nat} {st st2:List Pt} {n:Nd} (h:jd T t i st) (hT:T=t.map NdA.nd) (hi:i<t.length) (hn:t[i]=n.any) (hg:aL n) (hs:stepW T st i n=.ok st2):jd T t (i+1) st2:=by
 have hl:st.length=(aH T i).length:=by rw [← h.roots,List.length_map]
 have hTi:T[i]?=some n:=by rw [hT,List.getElem?_map,List.getElem?_eq_getElem hi,hn]; exact congrArg some (jg n)
 have hs2:=hs
 unfold stepW at hs2
 split at hs2
 ·cases hs2
 split at hs2
 ·cases hs2
 split at hs2
 ·cases hs2
 rename_i h32
 cases hs2
 refine ⟨by rw [h.run,List.drop_eq_getElem_cons hi,c8,hn,if_neg (by rw [ft hg]; decide),jg,hs],?_,?_⟩
 ·intro p hp
  rcases List.mem_append.1 hp with hp | hp
  ·have:=h.low p (List.mem_of_mem_take hp)
   omega
  simp at hp
  subst hp
  exact ⟨by simp,by simp only []; omega⟩
 rw [db hTi,List.map_append,List.map_take,h.roots,hl]
 rfl
def rtC (l:List Pt):List Value:=l.map fun p=>.int .i64 (p.root:Nat)
theorem vh (l:List Pt) (p:Pt):rtC (l++[p])=rtC l++[.int .i64 (p.root:Nat)]:=by unfold rtC; rw [List.map_append]; rfl
theorem jd.kids {T:List Nd} {t:List NdA} {i k d:Nat} {st:List Pt} {n:Nd} (h:jd T t i st) (hT:T=t.map NdA.nd) (hi:i<t.length) (hn:t[i]=n.any) (hk:aw n=k) (hd:st.length - k=d):rtC (st.drop d)=(ai T i).map (fun x=>Value.int .i64 (x:Nat)):=by
 have hl:st.length=(aH T i).length:=by rw [← h.roots,List.length_map]
 have hTi:T[i]?=some n:=by rw [hT,List.getElem?_map,List.getElem?_eq_getElem hi,hn]; exact congrArg some (jg n)
 rw [dy hTi,← h.roots,hk,List.length_map,hd,← List.map_drop,List.map_map]
 rfl
theorem mj {l:List Pt} {ks:List Nat} (h:rtC l=ks.map (fun x=>Value.int .i64 (x:Nat))):ks.length=l.length:=by
 have:=congrArg List.length h
 unfold rtC at this
 rw [List.length_map,List.length_map] at this
 exact this.symm
def bc (w0:World) (kv:Value) (ks:List Nat):aS:=aZ w0.heap.size 3 1 kv ks.length (ks.map fun x=>.int .i64 (x:Nat))
def oL (w0:World) (T:List Nd) (t:List NdA) {σ:Type} (S:σ→List aS) (R:Nat→σ→Prop) (row:Option Nat) (vf:Nat) (lb:Array Value):Prop :=
 ∀ (i:Nat) (s:σ) (W:World) (kv:Value) (d:Nat) (st:List Pt) (ps:List aS),i<t.length→R i s→jd T t (i+1) st→st.getLast?.map (·.depth)=some d →
  Ok w0 (bc w0 kv (ai T i)::(S s++ps)) W→(∀ x∈ps,x.far row)→(bc w0 kv (ai T i)).far row→(∀ x∈S s,x.far kv.ownBlock) →
  Calls prog vf (#[.int .i64 (i:Nat),kv,.int .i64 (d:Nat)]++lb) W fun e W'=>e=.returned (.tuple #[])∧∃ s',R (i+1) s' ∧
   (∀ rw,(∀ x∈S s,x.far rw)→(bc w0 kv (ai T i)).far rw→∀ x∈S s',x.far rw)∧Ok w0 (S s'++ps) W'
def vE (w0:World) (t:List NdA) {σ:Type} (S:σ→List aS) (R:Nat→σ→Prop) (V:Int) (e:Ending) (w':World):Prop :=
 e=.returned (.int .i64 V)∧∃ i s,R i s∧i≤t.length∧(V=0→i=t.length)∧Ok w0 (S s) w'
theorem fR {row:Option Nat} {σ:Type} {S:σ→List aS} (h:row=none∨∀ s rw,(∀ x∈S s,x.far rw)→rw≠row) (s:σ) (v:Value) (hs:∀ x∈S s,x.far v.ownBlock):v.ownBlock=none∨v.ownBlock≠row:=by
 rcases h with h | h
 ·subst h
  cases v.ownBlock with
  | none=>exact .inl rfl
  | some g=>exact .inr (by simp)
 exact .inr (h s _ hs)
theorem jJ {w0 w:World} {v:Value} {l:List Pt} {d i D nk:Nat} {ps:List aS} (h:an w0 ps 167 3 v (d+1) (ak l++[.int .i64 (i:Int),.int .i64 (D:Int),.bool ((nk:Int) == 3)]) w) (hl:l.length=d) :
  an w0 ps 167 3 v (l++[(⟨i,D,decide (nk=3)⟩:Pt)]).length (ak (l++[(⟨i,D,decide (nk=3)⟩:Pt)])) w:=by
 rw [lE,List.length_append,hl,← yP]
 exact h
theorem gF (t:List NdA) (T:List Nd) (hT:T=t.map NdA.nd) (n:Nd) (l:List Pt) (ta la:Option Addr) (tl tc ll lc:Nat) (w:World) (h1:t.length=tl) (h2:l.length=ll) (ht:bi w ta 11 (t.map dv)) (hl:bi w la 3 (l.map eB)) (htl:tl≤1000) (hll:ll≤1000) (hroot:∀ p∈l,p.root<t.length) (hfn:n.kind=7→1≤n.fn∧n.fn≤50) :
  Calls prog 139 #[.slice ta tl tc,ndA n,.slice la ll lc] w fun e w'=>e=.returned (.bool (ek T n 0 l))∧Below w.heap.size w w':=by
 subst h1 h2 hT
 have:=oA (t.map dv) (t.map NdA.nd) n l ta la tc lc w (by rw [List.length_map,List.length_map]) (fun i q h=>by
  rw [List.getElem?_map,Option.map_eq_some_iff] at h
  obtain ⟨a,ha,rfl⟩:=h
  exact ⟨dv a,by rw [List.getElem?_map,ha]; rfl,rfl⟩) ht hl (by rw [List.length_map]; exact htl) hll (fun p hp=>by rw [List.length_map]; exact hroot p hp) hfn
 rw [List.length_map] at this
 exact this
theorem oB (w0 w:World) (t:List NdA) (ta:Option Addr) (tc:Nat) {σ:Type} (S:σ→List aS) (R:Nat→σ→Prop) (s0:σ) (row:Option Nat) (vf:Nat) (lb:Array Value)
  (ht:bi w0 ta 11 (t.map dv)) (htl:t.length≤1000) (htx:∀ a∈t,AF a) (hok:Ok w0 (S s0) w) (hR0:R 0 s0) (hout:∀ b,row=some b→b<w.heap.size)
  (hof:row=none∨∀ s rw,(∀ x∈S s,x.far rw)→rw≠row) (hvis:oL w0 (t.map NdA.nd) t S R row vf lb) (heg:∀ args w,(callFunc vf args).run prog w=.ok (.enter vf args) w) :
  Calls prog 86 #[.slice ta t.length tc,.func (.func vf) #[] lb] w (vE w0 t S R (ci t)):=by
 obtain ⟨i0,hi,hz0,hz1,hz2⟩:=info_parts p9
 obtain ⟨j0,ji,jz0,jz1,jz2⟩:=info_parts p7
 obtain ⟨T,hT⟩:∃ T,T=t.map NdA.nd:=⟨_,rfl⟩
 rw [← hT] at hvis
 have HTT:=keep hT
 have HT:=keep ht
 have HTX:=keep htx
 have HOUT:=keep hout
 have HOF:=keep hof
 have HVIS:=keep hvis
 have HR0:=keep hR0
 have HS0:=Lib.hid (an.start (hok.add (bf w.heap.size) (Nat.le_refl _)) 167 3)
 clear ht htx hT hout hof hvis hR0 hok
 obtain ⟨tl,htl2⟩:=ex (t.length)
 rw [htl2] at htl ⊢
 have HTL:=keep htl2
 clear htl2
 obtain ⟨V,hV⟩:=ex (ci t)
 rw [hV]
 have HV:=keep hV
 clear hV
 go_enter func86,ntmps86
 go_wp2_with fail
 go_loopw [5,16] (fun sv iv wr=>∃ (i:Nat) (st:List Pt) (s:σ),i≤tl∧iv=.int .i64 (i:Int)∧st.length≤i∧ao (R i s)∧ao (jd T t i st)∧ao (vK sv st.length)∧Hid (an w0 (bf w.heap.size::S s) 167 3 sv st.length (ak st) wr)) (fun _ iv _=>tl - (intOf iv).toNat)
 case atStart=>exact ⟨0,[],s0,Nat.zero_le _,rfl,Nat.zero_le _,HR0,keep ⟨rfl,by simp,rfl⟩,keep (.inl ⟨rfl,rfl⟩),HS0⟩
 case round =>
  clear HS0 HR0
  obtain ⟨i,st,s,hit,rfl,hsl,HRS0,HK,HS,HR⟩:=hrel
  obtain ⟨wp,rfl⟩:∃ wp:World,wp=wr:=⟨_,rfl⟩
  obtain ⟨sv,rfl⟩:∃ sv:Value,sv=u5:=⟨_,rfl⟩
  by_cases hlt:(i:Int)<tl
  ·have hil:i<t.length:=by rw [HTL.out]; omega
   have HIL:=keep hil
   obtain ⟨tb,tz,hta,htb,htcell⟩:=HT.out (by intro e; have h9:=congrArg List.length e; rw [List.length_map] at h9; simp only [List.length_nil] at h9; omega)
   have hbel:=HR.out.ok.bel
   obtain ⟨a,ha⟩:=ex (t[i]'HIL.out)
   have hcw:ag wp tb (tz+i * 11) 0 (dv a):=by
    have key:∀ j v,(dv a)[j]?=some v→wp.cell? ⟨tb,tz+i * 11+j,none⟩=some v:=by
     intro j v hj
     have h9:=htcell i (dv a) (by rw [List.getElem?_map,List.getElem?_eq_getElem hil,ha]; rfl) j v hj
     rw [← Nat.add_assoc] at h9
     exact (hbel.cell htb).trans h9
    exact ⟨key 0 _ rfl,key 1 _ rfl,key 2 _ rfl,key 3 _ rfl,key 4 _ rfl,key 5 _ rfl,key 6 _ rfl,key 7 _ rfl,key 8 _ rfl,key 9 _ rfl,key 10 _ rfl,trivial⟩
   have htbw:tb<wp.heap.size:=Nat.lt_of_lt_of_le htb hbel.size
   have hrf:some tb≠sv.ownBlock:=by
    intro e
    have:=(HR.out.own.lt tb e.symm).1
    omega
   by_cases hf0:ay a=0
   ·obtain ⟨hgn,hn0,han⟩:=dX hf0
    obtain ⟨n,hn⟩:=ex (a.nd)
    rw [hn] at hgn han
    rw [han] at ha hcw
    have hcw:ag wp tb (tz+i * 11) 0 (du n):=hcw
    have HGN:=keep hgn
    have HN:=keep ha
    clear hn han hn0 hf0 hgn ha
    obtain ⟨nk,vk,vn,vt,⟨r1,r2,r3,r4⟩,op,fn,nn⟩:=n
    subst hta
    have HR1:=Lib.hid (HR.out.add (ae tb (tz+i * 11) [.int .u8 nk,.int .u8 vk,.int .i64 vn,.string ⟨vt.toArray⟩,.int .i64 r1,.int .i64 r2,.int .i64 r3,.int .i64 r4,.int .i64 op,.int .u8 fn,.int .i64 nn]) ⟨htbw,hcw⟩ hrf)
    have htcell2:=htcell
    have HTB:=keep htb
    clear hil htcell htcell2 hbel hcw htbw HR htb hrf
    have HFAR:=keep HR1.out.far
    have HO:=Lib.hid HR1.out.pers
    clear HR1
    have HO1:Hid (Ok w0 (aZ w0.heap.size 167 3 sv st.length (ak st)::ae tb (tz+i * 11) [.int .u8 nk,.int .u8 vk,.int .i64 vn,.string ⟨vt.toArray⟩,.int .i64 r1,.int .i64 r2,.int .i64 r3,.int .i64 r4,.int .i64 op,.int .u8 fn,.int .i64 nn]::bf w.heap.size::S s) wp):=HO
    clear HO
    have F1:=sE HO1
    go_upto_region 5 with fail
    clear F1
    have H2:=Lib.hid (HO1.out.alloc wp.heap.size 39 [.int .u8 nk,.int .u8 vk,.int .i64 vn,.string ⟨vt.toArray⟩,.int .i64 r1,.int .i64 r2,.int .i64 r3,.int .i64 r4,.int .i64 op,.int .u8 fn,.int .i64 nn] rfl)
    clear HO1
    generalize (wp.alloc (.cells #[.int .u8 nk,.int .u8 vk,.int .i64 vn,.string ⟨vt.toArray⟩,.int .i64 r1,.int .i64 r2,.int .i64 r3,.int .i64 r4,.int .i64 op,.int .u8 fn,.int .i64 nn] 39))=W3 at H2 ⊢
    have F4:=sE H2
    go_wp2_with fail
    refine cM (mY ⟨nk,vk,vn,vt,⟨r1,r2,r3,r4⟩,op,fn,nn⟩ HGN.out _) H2 fun w5 H7=>?_
    clear F4 H2
    have F8:=sE H7
    go_wp2_with fail
    refine cM (oz ⟨nk,vk,vn,vt,⟨r1,r2,r3,r4⟩,op,fn,nn⟩ _) H7 fun w9 H11=>?_
    clear F8 H7
    have F12:=sE H11
    obtain ⟨k,hk⟩:=ex (aw (⟨nk,vk,vn,vt,⟨r1,r2,r3,r4⟩,op,fn,nn⟩:Nd))
    rw [hk]
    have HKB:=keep hk
    clear hk
    go_upto_region 9 with fail
    rcases HS.out with ⟨hsv,hs0⟩ | ⟨g,cap,hsv,hs1,hs2,hs3⟩
    ·subst hsv
     obtain rfl:st=[]:=List.length_eq_zero_iff.1 hs0
     clear hs0
     by_cases hlen:0<k
     ·have hleni:(0:Int)<(k:Int):=by omega
      have hlenb:decide ((0:Int)<(k:Int))=true:=by simpa using hleni
      have HLEN:=keep hlen
      refine wp_region_held_drew (S:=fun W=>Ok w0 (ac (wp.heap.size) 39 [.int .u8 nk,.int .u8 vk,.int .i64 vn,.string ⟨vt.toArray⟩,.int .i64 r1,.int .i64 r2,.int .i64 r3,.int .i64 r4,.int .i64 op,.int .u8 fn,.int .i64 nn]::aZ w0.heap.size 167 3 (.slice none 0 0) 0 (ak [])::ae tb (tz+i * 11) [.int .u8 nk,.int .u8 vk,.int .i64 vn,.string ⟨vt.toArray⟩,.int .i64 r1,.int .i64 r2,.int .i64 r3,.int .i64 r4,.int .i64 op,.int .u8 fn,.int .i64 nn]::bf w.heap.size::S s) W) (by kernel_rfl) H11.out.drew (fun hHeld => ?_)
      refine wt3 0 ?_
      refine wt3 1 ?_
      refine wt3 2 ?_
      refine wt3 3 ?_
      refine wt3 4 ?_
      refine wsk 5 ?_
      refine wsk 6 ?_
      refine wsk 7 ?_
      refine wsk 8 ?_
      refine wsk 9 ?_
      refine wsk 10 ?_
      refine wsk 11 ?_
      refine wsk 12 ?_
      refine wsk 13 ?_
      refine wsk 14 ?_
      refine wt3 15 ?_
      refine wpAnyH_done (by kernel_rfl) ?_ _
      clear F12
      clear H11
      have H14:=Lib.hid hHeld
      clear hHeld
      clear hleni hlenb hlen
      have HE:=keep (show V=4 from HV.out.symm.trans (HK.out.bad HTT.out HIL.out HN.out HGN.out (jY HKB.out HLEN.out)))
      go_wp2_with fail
      go_ret
      exact ⟨by rw [HE.out]; rfl,i,s,HRS0.out,Nat.le_of_lt HIL.out,fun h=>absurd h (by rw [HE.out]; decide),H14.out.drop _ (by intro x hx; simp only [List.mem_cons]; simp [hx])⟩
     obtain rfl:k=0:=by omega
     clear hlen
     have HKS:=keep (show rtC ([]:List Pt)=_ from HK.out.kids (d:=0) HTT.out HIL.out HN.out HKB.out rfl)
     have HKL:=keep (show (ai T i).length=0 from mj HKS.out)
     have hw0:IntKind.i64.wrap (0:Int)=0:=Go.IntWalk.i64_in _ (by omega)
     obtain ⟨kn3,hk3⟩:∃ b:Bool,((nk:Int) == 3)=b:=⟨_,rfl⟩
     have HK3:=keep hk3
     clear hk3
     obtain ⟨fv,hfv⟩:=ex (ek T ⟨nk,vk,vn,vt,⟨r1,r2,r3,r4⟩,op,fn,nn⟩ 0 [])
     have HFV:=keep hfv
     clear hfv
     refine wp_region_held_drew (S:=fun W=>Ok w0 (ac (wp.heap.size) 39 [.int .u8 nk,.int .u8 vk,.int .i64 vn,.string ⟨vt.toArray⟩,.int .i64 r1,.int .i64 r2,.int .i64 r3,.int .i64 r4,.int .i64 op,.int .u8 fn,.int .i64 nn]::aZ w0.heap.size 167 3 (.slice none 0 0) 0 (ak [])::ae tb (tz+i * 11) [.int .u8 nk,.int .u8 vk,.int .i64 vn,.string ⟨vt.toArray⟩,.int .i64 r1,.int .i64 r2,.int .i64 r3,.int .i64 r4,.int .i64 op,.int .u8 fn,.int .i64 nn]::bf w.heap.size::S s) W) (by kernel_rfl) H11.out.drew (fun hHeld => ?_)
     refine wt3 0 ?_
     refine wt3 1 ?_
     refine wt3 2 ?_
     refine wt3 3 ?_
     refine wt3 4 ?_
     refine wt3 5 ?_
     refine wt3 6 ?_
     refine wt3 7 ?_
     refine wt3 8 ?_
     refine wt3 9 ?_
     refine wt3 10 ?_
     refine wt3 11 ?_
     refine wt3 12 ?_
     refine wal 13 fun K hK => ?_
     go_simp
     refine (gF t T HTT.out ⟨nk,vk,vn,vt,⟨r1,r2,r3,r4⟩,op,fn,nn⟩ [] (some ⟨tb,tz,none⟩) _ tl tc 0 _ _ HTL.out rfl (HT.out.below hHeld.bel) (mR _ _ _) htl (by simp) (by simp) (fun h=>lu HGN.out h)).mono ?_
     rintro e w14 ⟨rfl,hb15⟩
     rw [HFV.out]
     go_wp2_with fail
     refine hK.out _ _ (hHeld.below hb15) (fun hHeld => ?_)
     clear hK K
     refine wn ?_
     refine wt3 14 ?_
     refine wt3 15 ?_
     refine wpAnyH_done (by kernel_rfl) ?_ _
     clear F12
     clear H11
     have H16:=Lib.hid hHeld
     clear hHeld
     clear hw0
     cases fv
     ·have HE:=keep (show V=4 from HV.out.symm.trans (HK.out.bad HTT.out HIL.out HN.out HGN.out (gE HKB.out (by simp) (d:=0) rfl HFV.out)))
      go_wp2_with fail
      go_ret
      exact ⟨by rw [HE.out]; rfl,i,s,HRS0.out,Nat.le_of_lt HIL.out,fun h=>absurd h (by rw [HE.out]; decide),H16.out.drop _ (by intro x hx; simp only [List.mem_cons]; simp [hx])⟩
     have HFR:=keep (show ∀ x∈(ac (wp.heap.size) 39 [.int .u8 nk,.int .u8 vk,.int .i64 vn,.string ⟨vt.toArray⟩,.int .i64 r1,.int .i64 r2,.int .i64 r3,.int .i64 r4,.int .i64 op,.int .u8 fn,.int .i64 nn]::aZ w0.heap.size 167 3 (.slice none 0 0) 0 (ak [])::ae tb (tz+i * 11) [.int .u8 nk,.int .u8 vk,.int .i64 vn,.string ⟨vt.toArray⟩,.int .i64 r1,.int .i64 r2,.int .i64 r3,.int .i64 r4,.int .i64 op,.int .u8 fn,.int .i64 nn]::bf w.heap.size::S s),x.far (some w14.heap.size) from fun x hx=>x.new _ _ (Nat.le_refl _) (H16.out.all x hx))
     have HGL:=keep (show ∀ x,(.slice none 0 0:Value).ownBlock=some x→x<w14.heap.size from fun x hx=>((H16.out.get (aZ w0.heap.size 167 3 (.slice none 0 0) 0 (ak [])) (by simp)).lt x hx).2)
     have HLB:=keep H16.out.bel.size
     have HBPO:=keep (show ¬ row=some w14.heap.size from fun h9=>absurd (HOUT.out _ h9) (by have h8:w.heap.size≤w14.heap.size:=H16.out.get (bf w.heap.size) (by simp); omega))
     have F17:=H16.out.sees
     simp only [sees,ac,ae,ag,Nat.add_zero,aa,Nat.reduceAdd] at F17
     obtain ⟨⟨z0,c00,c01,c02,c03,c04,c05,c06,c07,c08,c09,c0a,-⟩,-,⟨z2,c20,c21,c22,c23,c24,c25,c26,c27,c28,c29,c2a,-⟩,-⟩:=F17
     go_upto_region 12 with fail
     have y18:=z0
     have y19:=z2
     clear z0 c00 c01 c02 c03 c04 c05 c06 c07 c08 c09 c0a z2 c20 c21 c22 c23 c24 c25 c26 c27 c28 c29 c2a
     have H20:=Lib.hid (H16.out.var w14.heap.size 167 [.int .i64 i,.int .i64 1,.bool ((nk:Int) == 3)] rfl)
     clear H16
     generalize (w14.alloc (.cells #[.int .i64 i,.int .i64 1,.bool ((nk:Int) == 3)] 167))=W21 at H20 ⊢
     have F22:=sE H20
     go_wp2_with fail
     have h1d:((bu (([]:List Pt).take 0):Nat):Int)=1:=by simp [bu]
     have HST:=Lib.hid (an.start (show Ok w0 (af (w14.heap.size) 167 [.int .i64 i,.int .i64 ((bu (([]:List Pt).take 0):Nat):Int),.bool ((nk:Int) == 3)]::(ac (wp.heap.size) 39 [.int .u8 nk,.int .u8 vk,.int .i64 vn,.string ⟨vt.toArray⟩,.int .i64 r1,.int .i64 r2,.int .i64 r3,.int .i64 r4,.int .i64 op,.int .u8 fn,.int .i64 nn]::aZ w0.heap.size 167 3 (.slice none 0 0) 0 (ak [])::ae tb (tz+i * 11) [.int .u8 nk,.int .u8 vk,.int .i64 vn,.string ⟨vt.toArray⟩,.int .i64 r1,.int .i64 r2,.int .i64 r3,.int .i64 r4,.int .i64 op,.int .u8 fn,.int .i64 nn]::bf w.heap.size::S s)) W21 by rw [h1d]; exact H20.out) 3 1)
     clear h1d
     clear F22
     go_loopw [11,56] (fun kv jv wr=>∃ j:Nat,j≤0∧jv=.int .i64 (j:Int)∧Hid (an w0 (af (w14.heap.size) 167 [.int .i64 i,.int .i64 ((bu (([]:List Pt).take j):Nat):Int),.bool ((nk:Int) == 3)]::(ac (wp.heap.size) 39 [.int .u8 nk,.int .u8 vk,.int .i64 vn,.string ⟨vt.toArray⟩,.int .i64 r1,.int .i64 r2,.int .i64 r3,.int .i64 r4,.int .i64 op,.int .u8 fn,.int .i64 nn]::aZ w0.heap.size 167 3 (.slice none 0 0) 0 (ak [])::ae tb (tz+i * 11) [.int .u8 nk,.int .u8 vk,.int .i64 vn,.string ⟨vt.toArray⟩,.int .i64 r1,.int .i64 r2,.int .i64 r3,.int .i64 r4,.int .i64 op,.int .u8 fn,.int .i64 nn]::bf w.heap.size::S s)) 3 1 kv j (rtC (([]:List Pt).take j)) wr)) (fun _ jv _=>0 - (intOf jv).toNat)
     case atStart=>exact ⟨0,Nat.zero_le _,rfl,HST⟩
     case round =>
      clear HST H20
      obtain ⟨j,hjk,rfl,HR⟩:=hrel
      obtain ⟨wq,rfl⟩:∃ wq:World,wq=wr:=⟨_,rfl⟩
      by_cases hlj:(j:Int)<0
      ·exact absurd hlj (by omega)
      obtain rfl:j=0:=by omega
      obtain ⟨D,hD⟩:=ex (bu ([]:List Pt))
      have hLl:([]:List Pt).take 0=([]:List Pt):=rfl
      rw [hLl,hD,HKS.out] at HR
      have HD:=keep hD
      clear hLl hD
      have HKF:=keep HR.out.far
      obtain ⟨kva,kvc,hkv⟩:=bp HR.out.own
      subst hkv
      have H5:=Lib.hid (show Ok w0 (bc w0 (.slice kva 0 kvc) (ai T i)::af (w14.heap.size) 167 [.int .i64 i,.int .i64 ((D:Nat):Int),.bool ((nk:Int) == 3)]::(ac (wp.heap.size) 39 [.int .u8 nk,.int .u8 vk,.int .i64 vn,.string ⟨vt.toArray⟩,.int .i64 r1,.int .i64 r2,.int .i64 r3,.int .i64 r4,.int .i64 op,.int .u8 fn,.int .i64 nn]::aZ w0.heap.size 167 3 (.slice none 0 0) 0 (ak [])::ae tb (tz+i * 11) [.int .u8 nk,.int .u8 vk,.int .i64 vn,.string ⟨vt.toArray⟩,.int .i64 r1,.int .i64 r2,.int .i64 r3,.int .i64 r4,.int .i64 op,.int .u8 fn,.int .i64 nn]::bf w.heap.size::S s)) wq by unfold bc; rw [HKL.out]; exact HR.out.pers)
      clear HR
      have F23:=sE H5
      by_cases h32:(D:Int)>32
      ·have HE:=keep (show V=9 from HV.out.symm.trans (HK.out.bad HTT.out HIL.out HN.out HGN.out (iA HKB.out (by simp) (d:=0) rfl HFV.out (by show 32<bu ([]:List Pt); rw [HD.out]; omega))))
       go_wp2_with fail
       go_ret
       exact ⟨by rw [HE.out]; rfl,i,s,HRS0.out,Nat.le_of_lt HIL.out,fun h=>absurd h (by rw [HE.out]; decide),H5.out.drop _ (by intro x hx; simp only [List.mem_cons]; simp [hx])⟩
      have HOKS:=keep (step_ok (t:=T) (st:=([]:List Pt)) (i:=i) HKB.out (by simp) (d:=0) rfl HFV.out (by show ¬ 32<bu ([]:List Pt); rw [HD.out]; omega))
      have HNX:=keep (HK.out.next HTT.out HIL.out HN.out HGN.out HOKS.out)
      go_upto_region 21 with fail
      have HOS:=Lib.hid (show an w0 (af (w14.heap.size) 167 [.int .i64 i,.int .i64 ((D:Nat):Int),.bool ((nk:Int) == 3)]::bc w0 (.slice kva 0 kvc) (ai T i)::bf w.heap.size::S s) 167 3 (.slice none 0 0) 0 (ak ([]:List Pt)) wq from ⟨H5.out.drop _ (by
       intro x hx
       simp only [List.mem_cons] at hx ⊢
       rcases hx with h9 | h9 | h9 | h9 <;> simp [h9]),(World.ownsRow_nil _ _ _ _),by
       intro x hx
       simp only [List.mem_cons] at hx
       rcases hx with rfl | rfl | rfl | hx
       ·show some (w14.heap.size)≠_
        intro e9
        have:=HGL.out _ e9.symm
        omega
       ·have h8:=HKF.out (aZ w0.heap.size 167 3 (.slice none 0 0) 0 (ak [])) (by simp)
        show ((.slice kva 0 kvc):Value).ownBlock=none∨((.slice kva 0 kvc):Value).ownBlock≠_
        cases h7:((.slice kva 0 kvc):Value).ownBlock with
        | none=>exact .inl rfl
        | some g7=>exact .inr (by intro h6; cases h6)
       ·trivial
       exact HFAR.out x (by simp [hx])⟩)
      have HOSD:=Lib.hid HOS.out.drew
      have HB9:=keep HOSD.out.ok.bel.size
      generalize hWd:wq.drew=Wd at HOSD HB9
      have hw0:IntKind.i64.wrap (0:Int)=0:=Go.IntWalk.i64_in _ (by omega)
      refine wp_region_held_drew (S:=fun W=>Ok w0 (af (w14.heap.size) 167 [.int .i64 i,.int .i64 ((D:Nat):Int),.bool ((nk:Int) == 3)]::bc w0 (.slice kva 0 kvc) (ai T i)::bf w.heap.size::S s) W) (by kernel_rfl) (by rw [hWd]; exact HOSD.out.ok) (fun hHeld => ?_)
      rw [hWd] at hHeld ⊢
      clear hWd HOS H5
      refine wt3 0 ?_
      refine wt3 1 ?_
      refine wt3 2 ?_
      refine wt3 3 ?_
      refine wt3 4 ?_
      refine wt3 5 ?_
      refine wt3 6 ?_
      refine wal 7 fun K hK => ?_
      go_simp
      have HO1:=Lib.hid (HOSD.out.alloc_obj (.cells #[.int .i64 (i:Int),.int .i64 ((D:Nat):Int),.bool ((nk:Int) == 3)] 167))
      refine hK.out _ _ HO1.out.ok (fun hHeld => ?_)
      clear hK K
      refine wn ?_
      refine wal 8 fun K hK => ?_
      refine step_append_lies _ (by rfl) _ _ _ (by rfl) w0.heap.size 167 i0 _ 3 24 underlying163 hi hz0 hz1 hz2 rfl (by omega) _ _ _ (by rfl) HO1.out.own ⟨Wd.heap.size,0,none⟩ 1 1 [.int .i64 (i:Int),.int .i64 ((D:Nat):Int),.bool ((nk:Int) == 3)] (by rfl) (by rfl) (World.news_of_block (cs:=#[.int .i64 (i:Int),.int .i64 ((D:Nat):Int),.bool ((nk:Int) == 3)]) (t:=167) (fr:=(0,0)) (heap_alloc_new _ _)) (by intro u hu; simp at hu; rcases hu with rfl | rfl | rfl <;> rfl) (by omega) (by unfold maxLen; omega) (by omega) (by have:=HB9.out; simp; omega) (Wd.heap.size+1) (by simp) ?_
      intro g3 cap3 w3 hown3 hgrow3 hat3 hlt3
      have HO3:=Lib.hid (HO1.out.appended hown3 hgrow3 (by rw [World.size_alloc]; exact hat3))
      clear hown3 hgrow3 hat3 HO1 HOSD
      refine hK.out _ _ HO3.out.ok (fun hHeld => ?_)
      clear hK K
      refine wn ?_
      refine wt3 9 ?_
      refine wpAnyH_done (by kernel_rfl) ?_ _
      clear hHeld
      clear hw0
      have F9:=sR HO3
      have HFIN:=Lib.hid (jJ (l:=([]:List Pt)) HO3.out rfl)
      have hstk:=jZ (l:=([]:List Pt)) (p:=⟨i,D,decide (nk=3)⟩) HO3.out rfl
      have HSTK:=keep hstk
      clear hstk HO3
      have hnx:=HNX.out
      simp only [HD.out,List.drop_zero,List.take_zero] at hnx
      have HNX2:=keep hnx
      clear hnx HNX
      go_wp2_with fail
      refine (HVIS.out i s _ _ D (([]:List Pt)++[(⟨i,D,decide (nk=3)⟩:Pt)]) [af (w14.heap.size) 167 [.int .i64 i,.int .i64 ((D:Nat):Int),.bool ((nk:Int) == 3)],bf w.heap.size,aZ w0.heap.size 167 3 (.slice (some ⟨g3,0,none⟩) (0+1) cap3) (([]:List Pt)++[(⟨i,D,decide (nk=3)⟩:Pt)]).length (ak (([]:List Pt)++[(⟨i,D,decide (nk=3)⟩:Pt)]))] HIL.out HRS0.out HNX2.out (by simp) (HFIN.out.pers.drop _ ?hmemx40) ?hf1x40 ?hf2x40 ?hf3x40).mono ?_
      case hmemx40 =>
       intro x hx
       simp only [List.mem_cons,List.mem_append,List.not_mem_nil,or_false] at hx ⊢
       rcases hx with h9 | h9 | h9 | h9 | h9 <;> simp [h9]
      case hf1x40 =>
       intro x hx
       simp only [List.mem_cons,List.not_mem_nil,or_false] at hx
       rcases hx with rfl | rfl | rfl
       ·exact fun h9=>HBPO.out h9.symm
       ·trivial
       exact fR HOF.out s _ fun y hy=>HFIN.out.far y (by simp [hy])
      case hf2x40=>exact fR HOF.out s _ fun y hy=>HKF.out y (by simp [hy])
      case hf3x40=>exact fun y hy=>HKF.out y (by simp [hy])
      rintro e w11 ⟨rfl,s',HR',hfs,hok⟩
      have HRS1:=keep HR'
      have HFS:=keep hfs
      have HOK:=Lib.hid hok
      clear F9 HR' hfs hok
      go_wp2_with fail
      go_roundw
      case rel =>
       refine ⟨i+1,([]:List Pt)++[(⟨i,D,decide (nk=3)⟩:Pt)],s',by omega,by go_num,by simp,HRS1,HNX2,HSTK,Lib.hid (an.back (HOK.out.drop _ ?_) ?_)⟩
       ·intro x hx
        simp only [List.mem_cons,List.mem_append,List.not_mem_nil,or_false] at hx ⊢
        rcases hx with h9 | h9 | h9 <;> simp [h9]
       intro x hx
       rcases List.mem_cons.1 hx with rfl | hx
       ·trivial
       exact HFS.out _ (fun y hy=>HFIN.out.far y (by simp [hy])) (HFIN.out.far _ (by simp)) x hx
      case measure=>simp [intOf]; omega
    subst hsv
    obtain ⟨m,hm⟩:=ex (st.length)
    rw [hm] at H11 hs1 hs2 hsl HFAR ⊢
    have HM:=keep hm
    clear hm
    have HCAP:=keep hs3
    unfold maxLen at hs3
    by_cases hlen:m<k
    ·have hleni:(m:Int)<(k:Int):=by omega
     have hlenb:decide ((m:Int)<(k:Int))=true:=by simpa using hleni
     have hlenn:decide (m<k)=true:=by simpa using hlen
     have HLEN:=keep (show st.length<k by rw [HM.out]; exact hlen)
     refine wp_region_held_drew (S:=fun W=>Ok w0 (ac (wp.heap.size) 39 [.int .u8 nk,.int .u8 vk,.int .i64 vn,.string ⟨vt.toArray⟩,.int .i64 r1,.int .i64 r2,.int .i64 r3,.int .i64 r4,.int .i64 op,.int .u8 fn,.int .i64 nn]::aZ w0.heap.size 167 3 (.slice (some ⟨g,0,none⟩) m cap) m (ak st)::ae tb (tz+i * 11) [.int .u8 nk,.int .u8 vk,.int .i64 vn,.string ⟨vt.toArray⟩,.int .i64 r1,.int .i64 r2,.int .i64 r3,.int .i64 r4,.int .i64 op,.int .u8 fn,.int .i64 nn]::bf w.heap.size::S s) W) (by kernel_rfl) H11.out.drew (fun hHeld => ?_)
     refine wt3 0 ?_
     refine wt3 1 ?_
     refine wt3 2 ?_
     refine wt3 3 ?_
     refine wt3 4 ?_
     refine wsk 5 ?_
     refine wsk 6 ?_
     refine wsk 7 ?_
     refine wsk 8 ?_
     refine wsk 9 ?_
     refine wsk 10 ?_
     refine wsk 11 ?_
     refine wsk 12 ?_
     refine wsk 13 ?_
     refine wsk 14 ?_
     refine wt3 15 ?_
     refine wpAnyH_done (by kernel_rfl) ?_ _
     clear F12
     clear H11
     have H14:=Lib.hid hHeld
     clear hHeld
     clear hleni hlenb hlen hlenn
     have HE:=keep (show V=4 from HV.out.symm.trans (HK.out.bad HTT.out HIL.out HN.out HGN.out (jY HKB.out HLEN.out)))
     go_wp2_with fail
     go_ret
     exact ⟨by rw [HE.out]; rfl,i,s,HRS0.out,Nat.le_of_lt HIL.out,fun h=>absurd h (by rw [HE.out]; decide),H14.out.drop _ (by intro x hx; simp only [List.mem_cons]; simp [hx])⟩
    have hlenn:decide (m<k)=false:=by simpa using hlen
    have hleni:¬ (m:Int)<(k:Int):=by omega
    have hlenb:decide ((m:Int)<(k:Int))=false:=by simpa using hleni
    have HNLT:=keep (show ¬ st.length<k by rw [HM.out]; exact hlen)
    obtain ⟨d,hd⟩:=ex (m - k)
    have HDEQ:=keep (show st.length - k=d by rw [HM.out]; exact hd)
    have hdm:d≤m:=by omega
    have HDM:=keep hdm
    have hmk:m - d=k:=by omega
    have HKS:=keep (HK.out.kids HTT.out HIL.out HN.out HKB.out HDEQ.out)
    have HKL:=keep (show (ai T i).length=k by rw [mj HKS.out,List.length_drop,HM.out]; exact hmk)
    have hdi:(m:Int) - (k:Int)=(d:Int):=by omega
    have hdw:IntKind.i64.wrap ((m:Int) - (k:Int))=(d:Int):=by rw [hdi]; exact Go.IntWalk.i64_in _ (by omega)
    have hdw2:IntKind.i64.wrap (d:Int)=(d:Int):=Go.IntWalk.i64_in _ (by omega)
    have hdi2:(d:Int)≤(m:Int):=by omega
    by_cases hcd:cap=d
    ·obtain rfl:d=cap:=hcd.symm
     have HMK:=keep hmk
     have HDR:=keep (show st.drop d=[] from List.drop_eq_nil_of_le (by rw [HM.out]; omega))
     have HIL2:=keep (show ∀ p∈st,p.root<t.length from fun p hp=>Nat.lt_trans (HK.out.low p hp).1 HIL.out)
     obtain ⟨kn3,hk3⟩:∃ b:Bool,((nk:Int) == 3)=b:=⟨_,rfl⟩
     have HK3:=keep hk3
     clear hk3
     obtain ⟨fv,hfv⟩:=ex (ek T ⟨nk,vk,vn,vt,⟨r1,r2,r3,r4⟩,op,fn,nn⟩ 0 (st.drop d))
     have HFV:=keep hfv
     clear hfv
     refine wp_region_held_drew (S:=fun W=>Ok w0 (ac (wp.heap.size) 39 [.int .u8 nk,.int .u8 vk,.int .i64 vn,.string ⟨vt.toArray⟩,.int .i64 r1,.int .i64 r2,.int .i64 r3,.int .i64 r4,.int .i64 op,.int .u8 fn,.int .i64 nn]::aZ w0.heap.size 167 3 (.slice (some ⟨g,0,none⟩) m d) m (ak st)::ae tb (tz+i * 11) [.int .u8 nk,.int .u8 vk,.int .i64 vn,.string ⟨vt.toArray⟩,.int .i64 r1,.int .i64 r2,.int .i64 r3,.int .i64 r4,.int .i64 op,.int .u8 fn,.int .i64 nn]::bf w.heap.size::S s) W) (by kernel_rfl) H11.out.drew (fun hHeld => ?_)
     refine wt3 0 ?_
     refine wt3 1 ?_
     refine wt3 2 ?_
     refine wt3 3 ?_
     refine wt3 4 ?_
     refine wt3 5 ?_
     refine wt3 6 ?_
     refine wt3 7 ?_
     refine wt3 8 ?_
     refine wt3 9 ?_
     refine wt3 10 ?_
     refine wt3 11 ?_
     refine wt3 12 ?_
     refine wal 13 fun K hK => ?_
     go_simp
     refine (gF t T HTT.out ⟨nk,vk,vn,vt,⟨r1,r2,r3,r4⟩,op,fn,nn⟩ (st.drop d) (some ⟨tb,tz,none⟩) _ tl tc k _ _ HTL.out (by rw [List.length_drop,HM.out]; exact HMK.out) (HT.out.below hHeld.bel) (by rw [HDR.out]; exact mR _ _ _) htl (by omega) (fun p hp=>HIL2.out p (List.mem_of_mem_drop hp)) (fun h=>lu HGN.out h)).mono ?_
     rintro e w14 ⟨rfl,hb15⟩
     rw [HFV.out]
     go_wp2_with fail
     refine hK.out _ _ (hHeld.below hb15) (fun hHeld => ?_)
     clear hK K
     refine wn ?_
     refine wt3 14 ?_
     refine wt3 15 ?_
     refine wpAnyH_done (by kernel_rfl) ?_ _
     clear F12
     clear H11
     have H16:=Lib.hid hHeld
     clear hHeld
     clear hdw hdw2 hlenb hleni hlen hlenn
     cases fv
     ·have HE:=keep (show V=4 from HV.out.symm.trans (HK.out.bad HTT.out HIL.out HN.out HGN.out (gE HKB.out HNLT.out HDEQ.out HFV.out)))
      go_wp2_with fail
      go_ret
      exact ⟨by rw [HE.out]; rfl,i,s,HRS0.out,Nat.le_of_lt HIL.out,fun h=>absurd h (by rw [HE.out]; decide),H16.out.drop _ (by intro x hx; simp only [List.mem_cons]; simp [hx])⟩
     have HFR:=keep (show ∀ x∈(ac (wp.heap.size) 39 [.int .u8 nk,.int .u8 vk,.int .i64 vn,.string ⟨vt.toArray⟩,.int .i64 r1,.int .i64 r2,.int .i64 r3,.int .i64 r4,.int .i64 op,.int .u8 fn,.int .i64 nn]::aZ w0.heap.size 167 3 (.slice (some ⟨g,0,none⟩) m d) m (ak st)::ae tb (tz+i * 11) [.int .u8 nk,.int .u8 vk,.int .i64 vn,.string ⟨vt.toArray⟩,.int .i64 r1,.int .i64 r2,.int .i64 r3,.int .i64 r4,.int .i64 op,.int .u8 fn,.int .i64 nn]::bf w.heap.size::S s),x.far (some w14.heap.size) from fun x hx=>x.new _ _ (Nat.le_refl _) (H16.out.all x hx))
     have HGL:=keep (show ∀ x,(.slice (some ⟨g,0,none⟩) m d:Value).ownBlock=some x→x<w14.heap.size from fun x hx=>((H16.out.get (aZ w0.heap.size 167 3 (.slice (some ⟨g,0,none⟩) m d) m (ak st)) (by simp)).lt x hx).2)
     have HLB:=keep H16.out.bel.size
     have HBPO:=keep (show ¬ row=some w14.heap.size from fun h9=>absurd (HOUT.out _ h9) (by have h8:w.heap.size≤w14.heap.size:=H16.out.get (bf w.heap.size) (by simp); omega))
     have F17:=H16.out.sees
     simp only [sees,ac,ae,ag,Nat.add_zero,aa,Nat.reduceAdd] at F17
     obtain ⟨⟨z0,c00,c01,c02,c03,c04,c05,c06,c07,c08,c09,c0a,-⟩,-,⟨z2,c20,c21,c22,c23,c24,c25,c26,c27,c28,c29,c2a,-⟩,-⟩:=F17
     go_upto_region 12 with fail
     have y18:=z0
     have y19:=z2
     clear z0 c00 c01 c02 c03 c04 c05 c06 c07 c08 c09 c0a z2 c20 c21 c22 c23 c24 c25 c26 c27 c28 c29 c2a
     have H20:=Lib.hid (H16.out.var w14.heap.size 167 [.int .i64 i,.int .i64 1,.bool ((nk:Int) == 3)] rfl)
     clear H16
     generalize (w14.alloc (.cells #[.int .i64 i,.int .i64 1,.bool ((nk:Int) == 3)] 167))=W21 at H20 ⊢
     have F22:=sE H20
     go_wp2_with fail
     have h1d:((bu ((st.drop d).take 0):Nat):Int)=1:=by simp [bu]
     have HST:=Lib.hid (an.start (show Ok w0 (af (w14.heap.size) 167 [.int .i64 i,.int .i64 ((bu ((st.drop d).take 0):Nat):Int),.bool ((nk:Int) == 3)]::(ac (wp.heap.size) 39 [.int .u8 nk,.int .u8 vk,.int .i64 vn,.string ⟨vt.toArray⟩,.int .i64 r1,.int .i64 r2,.int .i64 r3,.int .i64 r4,.int .i64 op,.int .u8 fn,.int .i64 nn]::aZ w0.heap.size 167 3 (.slice (some ⟨g,0,none⟩) m d) m (ak st)::ae tb (tz+i * 11) [.int .u8 nk,.int .u8 vk,.int .i64 vn,.string ⟨vt.toArray⟩,.int .i64 r1,.int .i64 r2,.int .i64 r3,.int .i64 r4,.int .i64 op,.int .u8 fn,.int .i64 nn]::bf w.heap.size::S s)) W21 by rw [h1d]; exact H20.out) 3 1)
     clear h1d
     clear F22
     go_loopw [11,56] (fun kv jv wr=>∃ j:Nat,j≤k∧jv=.int .i64 (j:Int)∧Hid (an w0 (af (w14.heap.size) 167 [.int .i64 i,.int .i64 ((bu ((st.drop d).take j):Nat):Int),.bool ((nk:Int) == 3)]::(ac (wp.heap.size) 39 [.int .u8 nk,.int .u8 vk,.int .i64 vn,.string ⟨vt.toArray⟩,.int .i64 r1,.int .i64 r2,.int .i64 r3,.int .i64 r4,.int .i64 op,.int .u8 fn,.int .i64 nn]::aZ w0.heap.size 167 3 (.slice (some ⟨g,0,none⟩) m d) m (ak st)::ae tb (tz+i * 11) [.int .u8 nk,.int .u8 vk,.int .i64 vn,.string ⟨vt.toArray⟩,.int .i64 r1,.int .i64 r2,.int .i64 r3,.int .i64 r4,.int .i64 op,.int .u8 fn,.int .i64 nn]::bf w.heap.size::S s)) 3 1 kv j (rtC ((st.drop d).take j)) wr)) (fun _ jv _=>k - (intOf jv).toNat)
     case atStart=>exact ⟨0,Nat.zero_le _,rfl,HST⟩
     case round =>
      clear HST H20
      obtain ⟨j,hjk,rfl,HR⟩:=hrel
      obtain ⟨wq,rfl⟩:∃ wq:World,wq=wr:=⟨_,rfl⟩
      by_cases hlj:(j:Int)<(k:Int)
      ·exact absurd hlj (by have:=HMK.out; omega)
      obtain rfl:k=j:=by omega
      obtain ⟨D,hD⟩:=ex (bu (st.drop d))
      have hLl:(st.drop d).take k=(st.drop d):=List.take_of_length_le (by rw [List.length_drop,HM.out]; have:=HMK.out; omega)
      rw [hLl,hD,HKS.out] at HR
      have HD:=keep hD
      clear hLl hD
      have HKF:=keep HR.out.far
      obtain ⟨kva,kvc,hkv⟩:=bp HR.out.own
      subst hkv
      have H5:=Lib.hid (show Ok w0 (bc w0 (.slice kva k kvc) (ai T i)::af (w14.heap.size) 167 [.int .i64 i,.int .i64 ((D:Nat):Int),.bool ((nk:Int) == 3)]::(ac (wp.heap.size) 39 [.int .u8 nk,.int .u8 vk,.int .i64 vn,.string ⟨vt.toArray⟩,.int .i64 r1,.int .i64 r2,.int .i64 r3,.int .i64 r4,.int .i64 op,.int .u8 fn,.int .i64 nn]::aZ w0.heap.size 167 3 (.slice (some ⟨g,0,none⟩) m d) m (ak st)::ae tb (tz+i * 11) [.int .u8 nk,.int .u8 vk,.int .i64 vn,.string ⟨vt.toArray⟩,.int .i64 r1,.int .i64 r2,.int .i64 r3,.int .i64 r4,.int .i64 op,.int .u8 fn,.int .i64 nn]::bf w.heap.size::S s)) wq by unfold bc; rw [HKL.out]; exact HR.out.pers)
      clear HR
      have F23:=sE H5
      by_cases h32:(D:Int)>32
      ·have HE:=keep (show V=9 from HV.out.symm.trans (HK.out.bad HTT.out HIL.out HN.out HGN.out (iA HKB.out HNLT.out HDEQ.out HFV.out (by rw [HD.out]; omega))))
       go_wp2_with fail
       go_ret
       exact ⟨by rw [HE.out]; rfl,i,s,HRS0.out,Nat.le_of_lt HIL.out,fun h=>absurd h (by rw [HE.out]; decide),H5.out.drop _ (by intro x hx; simp only [List.mem_cons]; simp [hx])⟩
      have HOKS:=keep (step_ok (t:=T) (st:=st) (i:=i) HKB.out HNLT.out HDEQ.out HFV.out (by rw [HD.out]; omega))
      have HNX:=keep (HK.out.next HTT.out HIL.out HN.out HGN.out HOKS.out)
      go_upto_region 21 with fail
      have HOS:=Lib.hid (show an w0 (af (w14.heap.size) 167 [.int .i64 i,.int .i64 ((D:Nat):Int),.bool ((nk:Int) == 3)]::bc w0 (.slice kva k kvc) (ai T i)::bf w.heap.size::S s) 167 3 (.slice (some ⟨g,0,none⟩) d d) d (ak (st.take d)) wq from ⟨H5.out.drop _ (by
       intro x hx
       simp only [List.mem_cons] at hx ⊢
       rcases hx with h9 | h9 | h9 | h9 <;> simp [h9]),(by have h9:=mD (H5.out.get (aZ w0.heap.size 167 3 (.slice (some ⟨g,0,none⟩) m d) m (ak st)) (by simp)) HDM.out; rw [gY _ _ (by rw [HM.out]; exact HDM.out)] at h9; exact h9),by
       intro x hx
       simp only [List.mem_cons] at hx
       rcases hx with rfl | rfl | rfl | hx
       ·show some (w14.heap.size)≠_
        intro e9
        have:=HGL.out _ e9.symm
        omega
       ·have h8:=HKF.out (aZ w0.heap.size 167 3 (.slice (some ⟨g,0,none⟩) m d) m (ak st)) (by simp)
        show ((.slice kva k kvc):Value).ownBlock=none∨((.slice kva k kvc):Value).ownBlock≠_
        rcases h8 with h8 | h8
        ·cases h8
        exact .inr fun h9=>h8 h9.symm
       ·trivial
       exact HFAR.out x (by simp [hx])⟩)
      have HOSD:=Lib.hid HOS.out.drew
      have HB9:=keep HOSD.out.ok.bel.size
      generalize hWd:wq.drew=Wd at HOSD HB9
      have hdc:(d:Int)≤(d:Int):=by have:=HDM.out; omega
      have hw0:IntKind.i64.wrap (d:Int)=(d:Int):=Go.IntWalk.i64_in _ (by omega)
      refine wp_region_held_drew (S:=fun W=>Ok w0 (af (w14.heap.size) 167 [.int .i64 i,.int .i64 ((D:Nat):Int),.bool ((nk:Int) == 3)]::bc w0 (.slice kva k kvc) (ai T i)::bf w.heap.size::S s) W) (by kernel_rfl) (by rw [hWd]; exact HOSD.out.ok) (fun hHeld => ?_)
      rw [hWd] at hHeld ⊢
      clear hWd HOS H5
      refine wt3 0 ?_
      refine wt3 1 ?_
      refine wt3 2 ?_
      refine wt3 3 ?_
      refine wt3 4 ?_
      refine wt3 5 ?_
      refine wt3 6 ?_
      refine wal 7 fun K hK => ?_
      go_simp
      have HO1:=Lib.hid (HOSD.out.alloc_obj (.cells #[.int .i64 (i:Int),.int .i64 ((D:Nat):Int),.bool ((nk:Int) == 3)] 167))
      refine hK.out _ _ HO1.out.ok (fun hHeld => ?_)
      clear hK K
      refine wn ?_
      refine wal 8 fun K hK => ?_
      refine step_append_lies _ (by rfl) _ _ _ (by rfl) w0.heap.size 167 i0 _ 3 24 underlying163 hi hz0 hz1 hz2 rfl (by omega) _ _ _ (by rfl) HO1.out.own ⟨Wd.heap.size,0,none⟩ 1 1 [.int .i64 (i:Int),.int .i64 ((D:Nat):Int),.bool ((nk:Int) == 3)] (by rfl) (by rfl) (World.news_of_block (cs:=#[.int .i64 (i:Int),.int .i64 ((D:Nat):Int),.bool ((nk:Int) == 3)]) (t:=167) (fr:=(0,0)) (heap_alloc_new _ _)) (by intro u hu; simp at hu; rcases hu with rfl | rfl | rfl <;> rfl) (by omega) (by unfold maxLen; omega) (by omega) (by have:=HB9.out; simp; omega) (Wd.heap.size+1) (by simp) ?_
      intro g3 cap3 w3 hown3 hgrow3 hat3 hlt3
      have HO3:=Lib.hid (HO1.out.appended hown3 hgrow3 (by rw [World.size_alloc]; exact hat3))
      clear hown3 hgrow3 hat3 HO1 HOSD
      refine hK.out _ _ HO3.out.ok (fun hHeld => ?_)
      clear hK K
      refine wn ?_
      refine wt3 9 ?_
      refine wpAnyH_done (by kernel_rfl) ?_ _
      clear hHeld
      clear hw0
      have F9:=sR HO3
      have HFIN:=Lib.hid (jJ (l:=(st.take d)) HO3.out (by rw [List.length_take,HM.out]; have:=HDM.out; omega))
      have hstk:=jZ (l:=(st.take d)) (p:=⟨i,D,decide (nk=3)⟩) HO3.out (by rw [List.length_take,HM.out]; have:=HDM.out; omega)
      have HSTK:=keep hstk
      clear hstk HO3
      have hnx:=HNX.out
      simp only [HD.out] at hnx
      have HNX2:=keep hnx
      clear hnx HNX
      go_wp2_with fail
      refine (HVIS.out i s _ _ D ((st.take d)++[(⟨i,D,decide (nk=3)⟩:Pt)]) [af (w14.heap.size) 167 [.int .i64 i,.int .i64 ((D:Nat):Int),.bool ((nk:Int) == 3)],bf w.heap.size,aZ w0.heap.size 167 3 (.slice (some ⟨g3,0,none⟩) (d+1) cap3) ((st.take d)++[(⟨i,D,decide (nk=3)⟩:Pt)]).length (ak ((st.take d)++[(⟨i,D,decide (nk=3)⟩:Pt)]))] HIL.out HRS0.out HNX2.out (by simp) (HFIN.out.pers.drop _ ?hmemx80) ?hf1x80 ?hf2x80 ?hf3x80).mono ?_
      case hmemx80 =>
       intro x hx
       simp only [List.mem_cons,List.mem_append,List.not_mem_nil,or_false] at hx ⊢
       rcases hx with h9 | h9 | h9 | h9 | h9 <;> simp [h9]
      case hf1x80 =>
       intro x hx
       simp only [List.mem_cons,List.not_mem_nil,or_false] at hx
       rcases hx with rfl | rfl | rfl
       ·exact fun h9=>HBPO.out h9.symm
       ·trivial
       exact fR HOF.out s _ fun y hy=>HFIN.out.far y (by simp [hy])
      case hf2x80=>exact fR HOF.out s _ fun y hy=>HKF.out y (by simp [hy])
      case hf3x80=>exact fun y hy=>HKF.out y (by simp [hy])
      rintro e w11 ⟨rfl,s',HR',hfs,hok⟩
      have HRS1:=keep HR'
      have HFS:=keep hfs
      have HOK:=Lib.hid hok
      clear F9 HR' hfs hok
      go_wp2_with fail
      go_roundw
      case rel =>
       refine ⟨i+1,(st.take d)++[(⟨i,D,decide (nk=3)⟩:Pt)],s',by omega,by go_num,by rw [List.length_append,List.length_take,HM.out]; have:=HDM.out; simp; omega,HRS1,HNX2,HSTK,Lib.hid (an.back (HOK.out.drop _ ?_) ?_)⟩
       ·intro x hx
        simp only [List.mem_cons,List.mem_append,List.not_mem_nil,or_false] at hx ⊢
        rcases hx with h9 | h9 | h9 <;> simp [h9]
       intro x hx
       rcases List.mem_cons.1 hx with rfl | hx
       ·trivial
       exact HFS.out _ (fun y hy=>HFIN.out.far y (by simp [hy])) (HFIN.out.far _ (by simp)) x hx
      case measure=>simp [intOf]; omega
    have HMK:=keep hmk
    have HIL2:=keep (show ∀ p∈st,p.root<t.length from fun p hp=>Nat.lt_trans (HK.out.low p hp).1 HIL.out)
    obtain ⟨kn3,hk3⟩:∃ b:Bool,((nk:Int) == 3)=b:=⟨_,rfl⟩
    have HK3:=keep hk3
    clear hk3
    obtain ⟨fv,hfv⟩:=ex (ek T ⟨nk,vk,vn,vt,⟨r1,r2,r3,r4⟩,op,fn,nn⟩ 0 (st.drop d))
    have HFV:=keep hfv
    clear hfv
    refine wp_region_held_drew (S:=fun W=>Ok w0 (ac (wp.heap.size) 39 [.int .u8 nk,.int .u8 vk,.int .i64 vn,.string ⟨vt.toArray⟩,.int .i64 r1,.int .i64 r2,.int .i64 r3,.int .i64 r4,.int .i64 op,.int .u8 fn,.int .i64 nn]::aZ w0.heap.size 167 3 (.slice (some ⟨g,0,none⟩) m cap) m (ak st)::ae tb (tz+i * 11) [.int .u8 nk,.int .u8 vk,.int .i64 vn,.string ⟨vt.toArray⟩,.int .i64 r1,.int .i64 r2,.int .i64 r3,.int .i64 r4,.int .i64 op,.int .u8 fn,.int .i64 nn]::bf w.heap.size::S s) W) (by kernel_rfl) H11.out.drew (fun hHeld => ?_)
    refine wt3 0 ?_
    refine wt3 1 ?_
    refine wt3 2 ?_
    refine wt3 3 ?_
    refine wt3 4 ?_
    refine wt3 5 ?_
    refine wt3 6 ?_
    refine wt3 7 ?_
    refine wt3 8 ?_
    refine wt3 9 ?_
    refine wt3 10 ?_
    refine wt3 11 ?_
    refine wt3 12 ?_
    refine wal 13 fun K hK => ?_
    go_simp
    refine (gF t T HTT.out ⟨nk,vk,vn,vt,⟨r1,r2,r3,r4⟩,op,fn,nn⟩ (st.drop d) (some ⟨tb,tz,none⟩) (some ⟨g,d * 3,none⟩) tl tc k _ _ HTL.out (by rw [List.length_drop,HM.out]; exact HMK.out) (HT.out.below hHeld.bel) (kO (hHeld.all (aZ w0.heap.size 167 3 (.slice (some ⟨g,0,none⟩) m cap) m (ak st)) (by simp)) d) htl (by omega) (fun p hp=>HIL2.out p (List.mem_of_mem_drop hp)) (fun h=>lu HGN.out h)).mono ?_
    rintro e w14 ⟨rfl,hb15⟩
    rw [HFV.out]
    go_wp2_with fail
    refine hK.out _ _ (hHeld.below hb15) (fun hHeld => ?_)
    clear hK K
    refine wn ?_
    refine wt3 14 ?_
    refine wt3 15 ?_
    refine wpAnyH_done (by kernel_rfl) ?_ _
    clear F12
    clear H11
    have H16:=Lib.hid hHeld
    clear hHeld
    clear hdw hdw2 hlenb hleni hlen hlenn
    cases fv
    ·have HE:=keep (show V=4 from HV.out.symm.trans (HK.out.bad HTT.out HIL.out HN.out HGN.out (gE HKB.out HNLT.out HDEQ.out HFV.out)))
     go_wp2_with fail
     go_ret
     exact ⟨by rw [HE.out]; rfl,i,s,HRS0.out,Nat.le_of_lt HIL.out,fun h=>absurd h (by rw [HE.out]; decide),H16.out.drop _ (by intro x hx; simp only [List.mem_cons]; simp [hx])⟩
    have HFR:=keep (show ∀ x∈(ac (wp.heap.size) 39 [.int .u8 nk,.int .u8 vk,.int .i64 vn,.string ⟨vt.toArray⟩,.int .i64 r1,.int .i64 r2,.int .i64 r3,.int .i64 r4,.int .i64 op,.int .u8 fn,.int .i64 nn]::aZ w0.heap.size 167 3 (.slice (some ⟨g,0,none⟩) m cap) m (ak st)::ae tb (tz+i * 11) [.int .u8 nk,.int .u8 vk,.int .i64 vn,.string ⟨vt.toArray⟩,.int .i64 r1,.int .i64 r2,.int .i64 r3,.int .i64 r4,.int .i64 op,.int .u8 fn,.int .i64 nn]::bf w.heap.size::S s),x.far (some w14.heap.size) from fun x hx=>x.new _ _ (Nat.le_refl _) (H16.out.all x hx))
    have HGL:=keep (show ∀ x,(.slice (some ⟨g,0,none⟩) m cap:Value).ownBlock=some x→x<w14.heap.size from fun x hx=>((H16.out.get (aZ w0.heap.size 167 3 (.slice (some ⟨g,0,none⟩) m cap) m (ak st)) (by simp)).lt x hx).2)
    have HLB:=keep H16.out.bel.size
    have HBPO:=keep (show ¬ row=some w14.heap.size from fun h9=>absurd (HOUT.out _ h9) (by have h8:w.heap.size≤w14.heap.size:=H16.out.get (bf w.heap.size) (by simp); omega))
    have F17:=H16.out.sees
    simp only [sees,ac,ae,ag,Nat.add_zero,aa,Nat.reduceAdd] at F17
    obtain ⟨⟨z0,c00,c01,c02,c03,c04,c05,c06,c07,c08,c09,c0a,-⟩,-,⟨z2,c20,c21,c22,c23,c24,c25,c26,c27,c28,c29,c2a,-⟩,-⟩:=F17
    go_upto_region 12 with fail
    have y18:=z0
    have y19:=z2
    clear z0 c00 c01 c02 c03 c04 c05 c06 c07 c08 c09 c0a z2 c20 c21 c22 c23 c24 c25 c26 c27 c28 c29 c2a
    have H20:=Lib.hid (H16.out.var w14.heap.size 167 [.int .i64 i,.int .i64 1,.bool ((nk:Int) == 3)] rfl)
    clear H16
    generalize (w14.alloc (.cells #[.int .i64 i,.int .i64 1,.bool ((nk:Int) == 3)] 167))=W21 at H20 ⊢
    have F22:=sE H20
    go_wp2_with fail
    have h1d:((bu ((st.drop d).take 0):Nat):Int)=1:=by simp [bu]
    have HST:=Lib.hid (an.start (show Ok w0 (af (w14.heap.size) 167 [.int .i64 i,.int .i64 ((bu ((st.drop d).take 0):Nat):Int),.bool ((nk:Int) == 3)]::(ac (wp.heap.size) 39 [.int .u8 nk,.int .u8 vk,.int .i64 vn,.string ⟨vt.toArray⟩,.int .i64 r1,.int .i64 r2,.int .i64 r3,.int .i64 r4,.int .i64 op,.int .u8 fn,.int .i64 nn]::aZ w0.heap.size 167 3 (.slice (some ⟨g,0,none⟩) m cap) m (ak st)::ae tb (tz+i * 11) [.int .u8 nk,.int .u8 vk,.int .i64 vn,.string ⟨vt.toArray⟩,.int .i64 r1,.int .i64 r2,.int .i64 r3,.int .i64 r4,.int .i64 op,.int .u8 fn,.int .i64 nn]::bf w.heap.size::S s)) W21 by rw [h1d]; exact H20.out) 3 1)
    clear h1d
    clear F22
    go_loopw [11,56] (fun kv jv wr=>∃ j:Nat,j≤k∧jv=.int .i64 (j:Int)∧Hid (an w0 (af (w14.heap.size) 167 [.int .i64 i,.int .i64 ((bu ((st.drop d).take j):Nat):Int),.bool ((nk:Int) == 3)]::(ac (wp.heap.size) 39 [.int .u8 nk,.int .u8 vk,.int .i64 vn,.string ⟨vt.toArray⟩,.int .i64 r1,.int .i64 r2,.int .i64 r3,.int .i64 r4,.int .i64 op,.int .u8 fn,.int .i64 nn]::aZ w0.heap.size 167 3 (.slice (some ⟨g,0,none⟩) m cap) m (ak st)::ae tb (tz+i * 11) [.int .u8 nk,.int .u8 vk,.int .i64 vn,.string ⟨vt.toArray⟩,.int .i64 r1,.int .i64 r2,.int .i64 r3,.int .i64 r4,.int .i64 op,.int .u8 fn,.int .i64 nn]::bf w.heap.size::S s)) 3 1 kv j (rtC ((st.drop d).take j)) wr)) (fun _ jv _=>k - (intOf jv).toNat)
    case atStart=>exact ⟨0,Nat.zero_le _,rfl,HST⟩
    case round =>
     clear HST H20
     obtain ⟨j,hjk,rfl,HR⟩:=hrel
     obtain ⟨wq,rfl⟩:∃ wq:World,wq=wr:=⟨_,rfl⟩
     by_cases hlj:(j:Int)<(k:Int)
     ·have hjl:j<(st.drop d).length:=by rw [List.length_drop,HM.out]; have:=HMK.out; omega
      obtain ⟨p,hp⟩:=ex ((st.drop d)[j])
      have hrow:=kO (HR.out.ok.get (aZ w0.heap.size 167 3 (.slice (some ⟨g,0,none⟩) m cap) m (ak st)) (by simp)) d
      obtain ⟨pb,po,hpe,hpl,hpc⟩:=hrow (by intro e; have h9:=congrArg List.length e; rw [List.length_map] at h9; simp only [List.length_nil] at h9; omega)
      simp only [Option.some.injEq,Addr.mk.injEq,and_true] at hpe
      obtain ⟨rfl,rfl⟩:=hpe
      have hpr:=hpc j (eB p) (by rw [List.getElem?_map,List.getElem?_eq_getElem hjl,hp]; rfl)
      have hdt:bu ((st.drop d).take (j+1))=max (bu ((st.drop d).take j)) (p.depth+1):=by rw [List.take_succ_eq_append_getElem hjl,hp,pS]
      have HDT:=keep hdt
      have HRT0:=keep (show rtC ((st.drop d).take (j+1))=rtC ((st.drop d).take j)++[.int .i64 (p.root:Nat)] by rw [List.take_succ_eq_append_getElem hjl,hp,vh])
      have hpd:=(HK.out.low p (List.mem_of_mem_drop (by rw [← hp]; exact List.getElem_mem _))).2
      obtain ⟨pr,pd,pw⟩:=p
      simp only [] at hpd
      have hp0:=hpr 0 _ rfl
      have hp1:=hpr 1 _ rfl
      have hp2:=hpr 2 _ rfl
      simp only [Nat.add_zero,← Nat.add_assoc] at hp0 hp1 hp2
      have HRR:=Lib.hid (HR.out.alloc wq.heap.size 167 [.int .i64 (pr:Nat),.int .i64 (pd:Nat),.bool pw] rfl)
      clear hjl hp hrow hpc hpr hdt
      go_upto_region 16 with fail
      clear hp0 hp1 hp2
      generalize (wq.alloc (.cells #[.int .i64 (pr:Nat),.int .i64 (pd:Nat),.bool pw] 167))=wx at HRR ⊢
      have hq:=Blk.lt (HR.out.ok.get (af (w14.heap.size) 167 [.int .i64 i,.int .i64 ((bu ((st.drop d).take j):Nat):Int),.bool ((nk:Int) == 3)]) (by simp))
      have HRS:=Lib.hid HRR.out.swap
      clear HRR HR
      have hfar:∀ x∈(ac wq.heap.size 167 [.int .i64 (pr:Nat),.int .i64 (pd:Nat),.bool pw]::(ac (wp.heap.size) 39 [.int .u8 nk,.int .u8 vk,.int .i64 vn,.string ⟨vt.toArray⟩,.int .i64 r1,.int .i64 r2,.int .i64 r3,.int .i64 r4,.int .i64 op,.int .u8 fn,.int .i64 nn]::aZ w0.heap.size 167 3 (.slice (some ⟨g,0,none⟩) m cap) m (ak st)::ae tb (tz+i * 11) [.int .u8 nk,.int .u8 vk,.int .i64 vn,.string ⟨vt.toArray⟩,.int .i64 r1,.int .i64 r2,.int .i64 r3,.int .i64 r4,.int .i64 op,.int .u8 fn,.int .i64 nn]::bf w.heap.size::S s)),x.far (some (w14.heap.size)):=by
       intro x hx
       rcases List.mem_cons.1 hx with rfl | hx
       ·show some wq.heap.size≠some _
        simp only [ne_eq,Option.some.injEq]
        omega
       exact HFR.out x hx
      have F8:=HRS.out.ok.sees
      simp only [sees,af,ac,aa,Nat.reduceAdd] at F8
      obtain ⟨⟨⟨y0,y1⟩,y2,y3,y4,-⟩,⟨y5,y6,y7,y8,-⟩,-⟩:=F8
      go_upto_region 17 with fail
      have HRT:=Lib.hid (HRS.out.set_ (i:=1) (u:=.int .i64 (max ((bu ((st.drop d).take j):Nat):Int) ((pd:Int)+1))) (by have:=HRS.out.ok.bel.size; have h9:=HLB.out; omega) hfar)
      clear HRS hfar hq y0 y1 y2 y3 y4 y5 y6 y7 y8
      generalize hwy:wx.setCell ⟨w14.heap.size,1,none⟩ (.int .i64 (max ((bu ((st.drop d).take j):Nat):Int) ((pd:Int)+1)))=wy at HRT ⊢
      clear hwy
      have F8:=HRT.out.ok.sees
      simp only [sees,af,ac,aa,Nat.reduceAdd,List.set_cons_succ,List.set_cons_zero] at F8
      obtain ⟨-,⟨y5,y6,y7,y8,-⟩,-⟩:=F8
      go_wp2_with (at_builtin; refine wpList_append_lies _ rfl _ _ _ rfl w0.heap.size 3 j0 _ 1 8 underlying57 ji jz0 jz1 jz2 rfl (by omega) _ _ _ rfl (HRT.out.own.alloc _) ⟨wy.heap.size,0,none⟩ 1 1 [.int .i64 (pr:Nat)] rfl rfl (World.news_of_block (cs:=#[.int .i64 (pr:Nat)]) (t:=3) (fr:=(0,0)) (heap_alloc_new _ _)) (by intro u hu; simp at hu; rcases hu with rfl; rfl) (by omega) (by unfold maxLen; omega) (by omega) (by have:=HRT.out.ok.bel.size; simp; omega) _ rfl ?_; intro g5 cap5 w5b hown5 hgrow5 hat5 hlt5)
      go_roundw
      case rel =>
       have h9:=(HRT.out.alloc_obj _).appended hown5 hgrow5 hat5
       have hc:((bu ((st.drop d).take (j+1)):Nat):Int)=max ((bu ((st.drop d).take j):Nat):Int) ((pd:Int)+1):=by rw [HDT.out]; omega
       have h10:an w0 (af (w14.heap.size) 167 [.int .i64 i,.int .i64 (max ((bu ((st.drop d).take j):Nat):Int) ((pd:Int)+1)),.bool ((nk:Int) == 3)]::(ac (wp.heap.size) 39 [.int .u8 nk,.int .u8 vk,.int .i64 vn,.string ⟨vt.toArray⟩,.int .i64 r1,.int .i64 r2,.int .i64 r3,.int .i64 r4,.int .i64 op,.int .u8 fn,.int .i64 nn]::aZ w0.heap.size 167 3 (.slice (some ⟨g,0,none⟩) m cap) m (ak st)::ae tb (tz+i * 11) [.int .u8 nk,.int .u8 vk,.int .i64 vn,.string ⟨vt.toArray⟩,.int .i64 r1,.int .i64 r2,.int .i64 r3,.int .i64 r4,.int .i64 op,.int .u8 fn,.int .i64 nn]::bf w.heap.size::S s)) 3 1 _ (j+1) (rtC ((st.drop d).take j)++[.int .i64 (pr:Int)]) _:=h9.drop (_::(ac (wp.heap.size) 39 [.int .u8 nk,.int .u8 vk,.int .i64 vn,.string ⟨vt.toArray⟩,.int .i64 r1,.int .i64 r2,.int .i64 r3,.int .i64 r4,.int .i64 op,.int .u8 fn,.int .i64 nn]::aZ w0.heap.size 167 3 (.slice (some ⟨g,0,none⟩) m cap) m (ak st)::ae tb (tz+i * 11) [.int .u8 nk,.int .u8 vk,.int .i64 vn,.string ⟨vt.toArray⟩,.int .i64 r1,.int .i64 r2,.int .i64 r3,.int .i64 r4,.int .i64 op,.int .u8 fn,.int .i64 nn]::bf w.heap.size::S s)) (by
        intro x hx
        rcases List.mem_cons.1 hx with rfl | hx
        ·exact List.mem_cons_self ..
        exact List.mem_cons_of_mem _ (List.mem_cons_of_mem _ hx))
       refine ⟨_,_,_,⟨j+1,by omega,by go_num,?_⟩,rfl,rfl,rfl⟩
       rw [hc,HRT0.out]
       exact Lib.hid h10
      case measure=>simp [intOf]; omega
     obtain rfl:k=j:=by omega
     obtain ⟨D,hD⟩:=ex (bu (st.drop d))
     have hLl:(st.drop d).take k=(st.drop d):=List.take_of_length_le (by rw [List.length_drop,HM.out]; have:=HMK.out; omega)
     rw [hLl,hD,HKS.out] at HR
     have HD:=keep hD
     clear hLl hD
     have HKF:=keep HR.out.far
     obtain ⟨kva,kvc,hkv⟩:=bp HR.out.own
     subst hkv
     have H5:=Lib.hid (show Ok w0 (bc w0 (.slice kva k kvc) (ai T i)::af (w14.heap.size) 167 [.int .i64 i,.int .i64 ((D:Nat):Int),.bool ((nk:Int) == 3)]::(ac (wp.heap.size) 39 [.int .u8 nk,.int .u8 vk,.int .i64 vn,.string ⟨vt.toArray⟩,.int .i64 r1,.int .i64 r2,.int .i64 r3,.int .i64 r4,.int .i64 op,.int .u8 fn,.int .i64 nn]::aZ w0.heap.size 167 3 (.slice (some ⟨g,0,none⟩) m cap) m (ak st)::ae tb (tz+i * 11) [.int .u8 nk,.int .u8 vk,.int .i64 vn,.string ⟨vt.toArray⟩,.int .i64 r1,.int .i64 r2,.int .i64 r3,.int .i64 r4,.int .i64 op,.int .u8 fn,.int .i64 nn]::bf w.heap.size::S s)) wq by unfold bc; rw [HKL.out]; exact HR.out.pers)
     clear HR
     have F23:=sE H5
     by_cases h32:(D:Int)>32
     ·have HE:=keep (show V=9 from HV.out.symm.trans (HK.out.bad HTT.out HIL.out HN.out HGN.out (iA HKB.out HNLT.out HDEQ.out HFV.out (by rw [HD.out]; omega))))
      go_wp2_with fail
      go_ret
      exact ⟨by rw [HE.out]; rfl,i,s,HRS0.out,Nat.le_of_lt HIL.out,fun h=>absurd h (by rw [HE.out]; decide),H5.out.drop _ (by intro x hx; simp only [List.mem_cons]; simp [hx])⟩
     have HOKS:=keep (step_ok (t:=T) (st:=st) (i:=i) HKB.out HNLT.out HDEQ.out HFV.out (by rw [HD.out]; omega))
     have HNX:=keep (HK.out.next HTT.out HIL.out HN.out HGN.out HOKS.out)
     go_upto_region 21 with fail
     have HOS:=Lib.hid (show an w0 (af (w14.heap.size) 167 [.int .i64 i,.int .i64 ((D:Nat):Int),.bool ((nk:Int) == 3)]::bc w0 (.slice kva k kvc) (ai T i)::bf w.heap.size::S s) 167 3 (.slice (some ⟨g,0,none⟩) d cap) d (ak (st.take d)) wq from ⟨H5.out.drop _ (by
      intro x hx
      simp only [List.mem_cons] at hx ⊢
      rcases hx with h9 | h9 | h9 | h9 <;> simp [h9]),(by have h9:=mD (H5.out.get (aZ w0.heap.size 167 3 (.slice (some ⟨g,0,none⟩) m cap) m (ak st)) (by simp)) HDM.out; rw [gY _ _ (by rw [HM.out]; exact HDM.out)] at h9; exact h9),by
      intro x hx
      simp only [List.mem_cons] at hx
      rcases hx with rfl | rfl | rfl | hx
      ·show some (w14.heap.size)≠_
       intro e9
       have:=HGL.out _ e9.symm
       omega
      ·have h8:=HKF.out (aZ w0.heap.size 167 3 (.slice (some ⟨g,0,none⟩) m cap) m (ak st)) (by simp)
       show ((.slice kva k kvc):Value).ownBlock=none∨((.slice kva k kvc):Value).ownBlock≠_
       rcases h8 with h8 | h8
       ·cases h8
       exact .inr fun h9=>h8 h9.symm
      ·trivial
      exact HFAR.out x (by simp [hx])⟩)
     have HOSD:=Lib.hid HOS.out.drew
     have HB9:=keep HOSD.out.ok.bel.size
     generalize hWd:wq.drew=Wd at HOSD HB9
     have hdc:(d:Int)≤(cap:Int):=by have:=HDM.out; omega
     have hw0:IntKind.i64.wrap (d:Int)=(d:Int):=Go.IntWalk.i64_in _ (by omega)
     refine wp_region_held_drew (S:=fun W=>Ok w0 (af (w14.heap.size) 167 [.int .i64 i,.int .i64 ((D:Nat):Int),.bool ((nk:Int) == 3)]::bc w0 (.slice kva k kvc) (ai T i)::bf w.heap.size::S s) W) (by kernel_rfl) (by rw [hWd]; exact HOSD.out.ok) (fun hHeld => ?_)
     rw [hWd] at hHeld ⊢
     clear hWd HOS H5
     refine wt3 0 ?_
     refine wt3 1 ?_
     refine wt3 2 ?_
     refine wt3 3 ?_
     refine wt3 4 ?_
     refine wt3 5 ?_
     refine wt3 6 ?_
     refine wal 7 fun K hK => ?_
     go_simp
     have HO1:=Lib.hid (HOSD.out.alloc_obj (.cells #[.int .i64 (i:Int),.int .i64 ((D:Nat):Int),.bool ((nk:Int) == 3)] 167))
     refine hK.out _ _ HO1.out.ok (fun hHeld => ?_)
     clear hK K
     refine wn ?_
     refine wal 8 fun K hK => ?_
     refine step_append_lies _ (by rfl) _ _ _ (by rfl) w0.heap.size 167 i0 _ 3 24 underlying163 hi hz0 hz1 hz2 rfl (by omega) _ _ _ (by rfl) HO1.out.own ⟨Wd.heap.size,0,none⟩ 1 1 [.int .i64 (i:Int),.int .i64 ((D:Nat):Int),.bool ((nk:Int) == 3)] (by rfl) (by rfl) (World.news_of_block (cs:=#[.int .i64 (i:Int),.int .i64 ((D:Nat):Int),.bool ((nk:Int) == 3)]) (t:=167) (fr:=(0,0)) (heap_alloc_new _ _)) (by intro u hu; simp at hu; rcases hu with rfl | rfl | rfl <;> rfl) (by omega) (by unfold maxLen; omega) (by omega) (by have:=HB9.out; simp; omega) (Wd.heap.size+1) (by simp) ?_
     intro g3 cap3 w3 hown3 hgrow3 hat3 hlt3
     have HO3:=Lib.hid (HO1.out.appended hown3 hgrow3 (by rw [World.size_alloc]; exact hat3))
     clear hown3 hgrow3 hat3 HO1 HOSD
     refine hK.out _ _ HO3.out.ok (fun hHeld => ?_)
     clear hK K
     refine wn ?_
     refine wt3 9 ?_
     refine wpAnyH_done (by kernel_rfl) ?_ _
     clear hHeld
     clear hw0
     have F9:=sR HO3
     have HFIN:=Lib.hid (jJ (l:=(st.take d)) HO3.out (by rw [List.length_take,HM.out]; have:=HDM.out; omega))
     have hstk:=jZ (l:=(st.take d)) (p:=⟨i,D,decide (nk=3)⟩) HO3.out (by rw [List.length_take,HM.out]; have:=HDM.out; omega)
     have HSTK:=keep hstk
     clear hstk HO3
     have hnx:=HNX.out
     simp only [HD.out] at hnx
     have HNX2:=keep hnx
     clear hnx HNX
     go_wp2_with fail
     refine (HVIS.out i s _ _ D ((st.take d)++[(⟨i,D,decide (nk=3)⟩:Pt)]) [af (w14.heap.size) 167 [.int .i64 i,.int .i64 ((D:Nat):Int),.bool ((nk:Int) == 3)],bf w.heap.size,aZ w0.heap.size 167 3 (.slice (some ⟨g3,0,none⟩) (d+1) cap3) ((st.take d)++[(⟨i,D,decide (nk=3)⟩:Pt)]).length (ak ((st.take d)++[(⟨i,D,decide (nk=3)⟩:Pt)]))] HIL.out HRS0.out HNX2.out (by simp) (HFIN.out.pers.drop _ ?hmemx104) ?hf1x104 ?hf2x104 ?hf3x104).mono ?_
     case hmemx104 =>
      intro x hx
      simp only [List.mem_cons,List.mem_append,List.not_mem_nil,or_false] at hx ⊢
      rcases hx with h9 | h9 | h9 | h9 | h9 <;> simp [h9]
     case hf1x104 =>
      intro x hx
      simp only [List.mem_cons,List.not_mem_nil,or_false] at hx
      rcases hx with rfl | rfl | rfl
      ·exact fun h9=>HBPO.out h9.symm
      ·trivial
      exact fR HOF.out s _ fun y hy=>HFIN.out.far y (by simp [hy])
     case hf2x104=>exact fR HOF.out s _ fun y hy=>HKF.out y (by simp [hy])
     case hf3x104=>exact fun y hy=>HKF.out y (by simp [hy])
     rintro e w11 ⟨rfl,s',HR',hfs,hok⟩
     have HRS1:=keep HR'
     have HFS:=keep hfs
     have HOK:=Lib.hid hok
     clear F9 HR' hfs hok
     go_wp2_with fail
     go_roundw
     case rel =>
      refine ⟨i+1,(st.take d)++[(⟨i,D,decide (nk=3)⟩:Pt)],s',by omega,by go_num,by rw [List.length_append,List.length_take,HM.out]; have:=HDM.out; simp; omega,HRS1,HNX2,HSTK,Lib.hid (an.back (HOK.out.drop _ ?_) ?_)⟩
      ·intro x hx
       simp only [List.mem_cons,List.mem_append,List.not_mem_nil,or_false] at hx ⊢
       rcases hx with h9 | h9 | h9 <;> simp [h9]
      intro x hx
      rcases List.mem_cons.1 hx with rfl | hx
      ·trivial
      exact HFS.out _ (fun y hy=>HFIN.out.far y (by simp [hy])) (HFIN.out.far _ (by simp)) x hx
     case measure=>simp [intOf]; omega
   obtain ⟨E,hE⟩:=ex (ay a)
   have HE0:=keep (show E≠0 by rw [← hE]; exact hf0)
   have HAE:=keep (show ay (t[i]'HIL.out) = E by rw [ha]; exact hE)
   have HAF:=keep hE
   have hav:=HTX.out a (by rw [← ha]; exact List.getElem_mem _)
   have HAV:=keep hav
   clear hf0 hE ha hav
   obtain ⟨a0,a1,a2,a3,⟨a4,a5,a6,a7⟩,a8,a9,a10⟩:=a
   subst hta
   have HR1:=Lib.hid (HR.out.add (ae tb (tz+i * 11) [.int .u8 a0,.int .u8 a1,.int .i64 a2,.string ⟨a3.toArray⟩,.int .i64 a4,.int .i64 a5,.int .i64 a6,.int .i64 a7,.int .i64 a8,.int .u8 a9,.int .i64 a10]) ⟨htbw,hcw⟩ hrf).ok
   clear hil htcell hbel hcw htbw HR htb hrf
   have HE:=keep (show V=E from HV.out.symm.trans ((HK.out.fbad HTT.out HIL.out (by rw [HAE.out]; exact HE0.out)).trans HAE.out))
   have hE1:(E != 0)=true:=by simpa using HE0.out
   have HB1:Hid (Ok w0 (ae tb (tz+i * 11) [.int .u8 a0,.int .u8 a1,.int .i64 a2,.string ⟨a3.toArray⟩,.int .i64 a4,.int .i64 a5,.int .i64 a6,.int .i64 a7,.int .i64 a8,.int .u8 a9,.int .i64 a10]::bf w.heap.size::S s) wp):=HR1
   clear HR1
   have F1:=sE HB1
   go_upto_region 5 with fail
   clear F1
   have H2:=Lib.hid (HB1.out.alloc wp.heap.size 39 [.int .u8 a0,.int .u8 a1,.int .i64 a2,.string ⟨a3.toArray⟩,.int .i64 a4,.int .i64 a5,.int .i64 a6,.int .i64 a7,.int .i64 a8,.int .u8 a9,.int .i64 a10] rfl)
   clear HB1
   generalize (wp.alloc (.cells #[.int .u8 a0,.int .u8 a1,.int .i64 a2,.string ⟨a3.toArray⟩,.int .i64 a4,.int .i64 a5,.int .i64 a6,.int .i64 a7,.int .i64 a8,.int .u8 a9,.int .i64 a10] 39))=W3 at H2 ⊢
   have F4:=sE H2
   go_wp2_with fail
   refine cM (HAV.out _) H2 fun w5 H7=>?_
   rw [HAF.out]
   clear F4 H2
   have F8:=sE H7
   go_wp2_with fail
   go_ret
   exact ⟨by rw [HE.out]; rfl,i,s,HRS0.out,Nat.le_of_lt HIL.out,fun h=>absurd (HE.out.symm.trans h) HE0.out,H7.out.drop _ (by intro x hx; simp only [List.mem_cons]; simp [hx])⟩
  obtain rfl:i=tl:=by omega
  have hend:=HK.out.run
  rw [List.drop_of_length_le (by rw [HTL.out]; exact Nat.le_refl _)] at hend
  have hv:V=if st.length=1 then 0 else 4:=by
   have h9:=HV.out
   unfold ci at h9
   rw [← HTT.out,hend] at h9
   exact h9.symm
  have HVV:=keep hv
  have HOKE:=Lib.hid (HR.out.ok.tail)
  obtain ⟨a,c,hsv⟩:=bp HR.out.own
  subst hsv
  clear hend hv
  by_cases h1:st.length=1
  ·have h1i:((st.length:Nat):Int)=1:=by omega
   have hb1:(((st.length:Nat):Int) != 1)=false:=by rw [h1i]; rfl
   have HE:=keep (show V=0 by rw [HVV.out,if_pos h1])
   clear h1 h1i
   go_wp2_with fail
   go_ret
   exact ⟨by rw [HE.out]; rfl,_,s,HRS0.out,by rw [HTL.out]; exact Nat.le_refl _,fun _=>HTL.out.symm,HOKE.out⟩
  have hb1:(((st.length:Nat):Int) != 1)=true:=by simp; omega
  have HE:=keep (show V=4 by rw [HVV.out,if_neg h1])
  clear h1
  go_wp2_with fail
  go_ret
  exact ⟨by rw [HE.out]; rfl,_,s,HRS0.out,by rw [HTL.out]; exact Nat.le_refl _,fun _=>HTL.out.symm,HOKE.out⟩
