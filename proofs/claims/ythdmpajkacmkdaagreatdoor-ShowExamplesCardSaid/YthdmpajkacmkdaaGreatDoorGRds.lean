/- The kit's CopyTree; the statements' Few. The statement's own 'reads' and 'awake' of chapter 10. -/
import Derived.Test.YthdmpajkacmkdaaGreatDoorGOut
import Derived.Test.YthdmpajkacmkdaaGreatDoorGTg
import Derived.Test.YthdmpajkacmkdaaGreatDoorGTxt
namespace Go.Proofs.YthdmpajkacmkdaaGreatDoor
set_option maxRecDepth 100000
set_option maxHeartbeats 8000000
open Go.RowKit Go.Proofs.Tryz
def ak (t:List NdA):List Value:=t.flatMap bf
theorem ey (t:List NdA):(ak t).length=t.length * 11:=by
 unfold ak
 induction t with
 | nil=>rfl
 | cons t l ih=>rw [List.flatMap_cons,List.length_append,ih,List.length_cons]; show 11+_=_; omega
theorem ez (t:List NdA):∀ u∈ak t,u.oneCell'=true:=by
 intro u hu
 unfold ak at hu
 obtain ⟨t,-,ht⟩:=List.mem_flatMap.1 hu
 unfold bf at ht
 simp at ht
 rcases ht with rfl | rfl | rfl | rfl | rfl | rfl | rfl | rfl | rfl | rfl | rfl <;> rfl
theorem ly {w:World} {base:Nat} {v:Value} {t:List NdA} (h:w.ownsRow base 27 11 v t.length (ak t)):∃ a c,v=.slice a t.length c∧t.length≤c∧c≤maxLen∧ax w a 11 (t.map bf):=by
 obtain ⟨a,c,h1,h2,h3,h4⟩:=fN bf (fun _=>rfl) h rfl
 exact ⟨a,c,h1,h2,h3,h4⟩
theorem tg {α:Type} (f:α→List Value) (s:Nat) (hf:∀ x,(f x).length=s):∀ (l:List α) (j:Nat) (v:Value),(l.flatMap f)[j]?=some v→∃ i x k,l[i]?=some x∧j=i * s+k∧(f x)[k]?=some v:=by
 intro l
 induction l with
 | nil=>intro j v h; cases h
 | cons x l ih =>
  intro j v h
  rw [List.flatMap_cons] at h
  by_cases hj:j<(f x).length
  ·rw [List.getElem?_append_left hj] at h
   exact ⟨0,x,j,rfl,by omega,h⟩
  rw [List.getElem?_append_right (by omega)] at h
  obtain ⟨i,y,k,h1,h2,h3⟩:=ih _ _ h
  refine ⟨i+1,y,k,h1,?_,h3⟩
  rw [hf] at h2 hj
  rw [Nat.succ_mul]
  omega
def i7 (n:NdA):NdA:={ n with vt:=n.vt.take 300 }
def few (t:List NdA):List NdA:=(t.take 300).map i7
theorem qn (t:List NdA):(few t).length≤300:=by
 unfold few
 rw [List.length_map,List.length_take]
 omega
theorem lP {t:List NdA} (h:∀ n∈t,iU n):∀ n∈few t,iU n∧n.vt.length≤300:=by
 intro n hn
 obtain ⟨x,hx,rfl⟩:=List.mem_map.1 hn
 have h1:=h x (List.mem_of_mem_take hx)
 have h2:(x.vt.take 300).length≤300:=by rw [List.length_take]; omega
 exact ⟨⟨h1.num,Nat.le_trans h2 (by decide),h1.fnb⟩,h2⟩
theorem xI {t:List NdA} (h:t.length≤300) (h2:∀ n∈t,n.vt.length≤300):few t=t:=by
 unfold few
 rw [List.take_of_length_le h]
 conv=>rhs; rw [← List.map_id t]
 refine List.map_congr_left fun n hn => ?_
 unfold i7
 rw [List.take_of_length_le (h2 n hn)]
 rfl
theorem yL:∀ (l:List NdA) (k:Nat) (x:NdA) (v:List UInt8),l[k]?=some x→(ak l).set (k * 11+3) (.string ⟨v.toArray⟩)=ak (l.set k { x with vt:=v }):=by
 intro l
 induction l with
 | nil=>intro k x v h; cases h
 | cons y l ih =>
  intro k x v h
  unfold ak
  cases k with
  | zero =>
   simp only [List.getElem?_cons_zero,Option.some.injEq] at h
   subst h
   rw [List.set_cons_zero,List.flatMap_cons,List.flatMap_cons]
   rfl
  | succ k =>
   rw [List.set_cons_succ,List.flatMap_cons,List.flatMap_cons,List.set_append_right _ _ (by show 11≤_; omega)]
   congr 1
   have:=ih k x v h
   unfold ak at this
   rw [← this]
   congr 1
   show (k+1) * 11+3 - 11=_
   omega
theorem uB (t:List NdA) (k:Nat) (h:k<t.length):((t.take k).map i7++t.drop k).set k (i7 t[k])=(t.take (k+1)).map i7++t.drop (k+1):=by
 have h1:((t.take k).map i7).length=k:=by rw [List.length_map,List.length_take]; omega
 rw [List.set_append_right _ _ (by omega),h1,Nat.sub_self,List.drop_eq_getElem_cons h,List.set_cons_zero,List.take_succ_eq_append_getElem h,List.map_append,List.append_assoc]
 rfl
theorem uA (t:List NdA) (k:Nat) (h:k<t.length):((t.take k).map i7++t.drop k)[k]?=some t[k]:=by
 have h1:((t.take k).map i7).length=k:=by rw [List.length_map,List.length_take]; omega
 rw [List.getElem?_append_right (by omega),h1,Nat.sub_self,List.getElem?_drop]
 simp [h]
theorem ij {P:Program} {w w':World} {ops:Array Oper} {rest:List Oper} {o:Oper} {a:Act} {Q:Exit→Act→World→Prop} {v:Value} (hgd:o.guard=none) (s x:Operand) (t:TypeId)
  (ho:o.op=.call { callee:=.builtin .append,args:=#[s,x],argTypes:=#[t,t] }) (V X:Value) (hs:a.eval s=V) (hx:a.eval x=X) (hr:(Builtin.append_ #[t,t] o.type #[V,X]).run P w=.ok v w')
  (h:wpList P ops Q rest (a.put o.dst v) w'):wpList P ops Q (o::rest) a w:=by
 refine wpList_plain hgd fun K hK => ?_
 unfold Oper.wp execOp
 simp only [ho,resolve,invoke,builtin,Sem.run_bind,Sem.run_pure,Result.andThen_ok,List.map_toArray,List.map_cons,List.map_nil,hs,hx,hr]
 exact hK _ _ h
theorem sZ (t:List NdA) (a:Option Addr) (c:Nat) (w:World) (h:ax w a 11 (t.map bf)) (hn:t.length≤100000) :
  Calls prog 19 #[.slice a t.length c] w fun e w'=>∃ u,e=.returned u∧w'.ownsRow w.heap.size 27 11 u t.length (ak t)∧Below w.heap.size w w':=by
 obtain ⟨i0,hi,hz0,hz1,hz2⟩:=info_parts iy
 obtain ⟨n,hnn⟩:=ex (t.length)
 have HN:=keep hnn
 rw [hnn] at hn ⊢
 have HCL:=keep (ey t)
 have HONE:=keep (ez t)
 have H0:=Lib.hid (ai.start (Ok.start w) 27 11)
 by_cases h0:n=0
 ·subst h0
  have hxs:ak t=[]:=by rw [List.length_eq_zero_iff.1 HN.out]; rfl
  rw [hxs]
  clear HCL HONE hxs h hnn HN
  have hap:(Builtin.append_ #[28,28] 28 #[.slice none 0 0,.slice a 0 c]).run prog w=.ok (.slice none 0 0) w:=by
   cases a <;> simp [Builtin.append_,run_underlying underlying28,sizeOf,typeInfo,hi,Builtin.lenOf,Builtin.firstCells,loadCells,loadCellsFrom]
  go_enter func19,ntmps19
  go_wp2_with (at_builtin; refine ij rfl _ _ _ rfl _ _ rfl rfl hap ?_)
  go_ret
  exact ⟨_,rfl,World.ownsRow_nil _ _ _ _,Below.refl _ _⟩
 obtain ⟨b,o,rfl,hB,hc⟩:=h (by intro e; rw [List.map_eq_nil_iff.1 e] at hnn; exact h0 (by rw [← hnn]; rfl))
 have HNW:=keep (show ∀ j u,(ak t)[j]?=some u→w.cell? ((⟨b,o,none⟩:Addr).add j)=some u from fun j u hu=>by
  obtain ⟨i,x,k,e1,rfl,e3⟩:=tg bf 11 (fun _=>rfl) t j u hu
  have h9:=hc i (bf x) (by rw [List.getElem?_map,e1]; rfl) k u e3
  rw [← h9]
  congr 1
  unfold Addr.add; split <;> simp_all)
 clear h hc hnn
 rw [HN.out] at HCL
 generalize ak t=xs at HCL HONE HNW ⊢
 clear HN
 go_enter func19,ntmps19
 go_wp2_with (at_builtin; refine wpList_append_lies _ rfl _ _ _ rfl w.heap.size 27 i0 _ 11 96 underlying28 hi hz0 hz1 hz2 rfl (by omega) _ _ _ rfl H0.out.own ⟨b,o,none⟩ n c xs rfl HCL.out HNW.out HONE.out (by omega) (by unfold maxLen; omega) (by omega) (Nat.le_refl _) _ rfl ?_; intro g3 cap3 w3 hown3 hgrow3 hat3 hlt3)
 go_ret
 have h9:=H0.out.appended hown3 hgrow3 hat3
 exact ⟨.slice (some ⟨g3,0,none⟩) n cap3,rfl,by have h8:=h9.own; rwa [Nat.zero_add,List.nil_append] at h8,h9.ok.bel⟩
set_option maxRecDepth 100000
set_option maxHeartbeats 8000000
theorem pH {L:List UInt8} {t:List Nd} {a:Int} (h:bU L=(t,a,0)) (hl:(co t).length≤256):fP (t.map Nd.any)=(co t,0):=by
 obtain ⟨-,hc,-⟩:=ir h
 rw [mb hc (by rw [jA]; omega),jA]
theorem cH (s want:ByteArray) (t:List Nd) (w:World) (hs:s.size≤1000) (hf:bU s.data.toList=(t,0,0)) (hl:(co t).length≤256) (hx:(⟨(co t).toArray⟩:ByteArray)=want) (he:cn w) :
  Calls prog 18 #[.string s,.string want] w fun e w'=>e=.returned (.bool true)∧Below w.heap.size w w':=by
 have HF:=keep hf
 have HS:=keep (show fP (t.map Nd.any)=(co t,0) from pH hf hl)
 have HX:=keep hx
 have HE:=keep he
 obtain ⟨-,hck,hsz,-⟩:=ir hf
 have HSZ:=keep hsz
 have HLN:=keep (show (t.map Nd.any).length=t.length from List.length_map ..)
 clear hf hx he hck hsz hl
 go_enter func18,ntmps18
 go_wp2_with fail
 refine (iP s _ (by omega) HE.out.1).mono ?_
 rintro e w1 ⟨v,rfl,hown,hb⟩
 rw [HF.out] at hown ⊢
 simp only [] at hown ⊢
 obtain ⟨a,c,rfl⟩:=aQ hown
 obtain ⟨-,hrow⟩:=pD hown
 have HR:=keep hrow
 have HB:=Lib.hid hb
 clear hown hrow hb HF
 go_wp2_with fail
 rw [← HLN.out]
 refine (jM (t.map Nd.any) a c w1 HSZ.out ⟨by rw [fu]; exact HR.out,HE.out.below HB.out⟩).mono ?_
 rintro e w2 ⟨rfl,hb⟩
 rw [HS.out]
 simp only []
 rw [HX.out]
 have HB2:=Lib.hid (HB.out.trans (hb.mono HB.out.size))
 clear hb HB HR HS HX HSZ HLN
 go_wp2_with fail
 go_ret
 exact ⟨by simp,HB2.out⟩
theorem vQ:bU [40,32,49,43,50,32,41,42,51]=([bd 10000,bd 20000,aI 1,bd 30000,aI 3],0,0):=by kernel_rfl
theorem o6:co [bd 10000,bd 20000,aI 1,bd 30000,aI 3]=[40,49,43,50,41,42,51]:=by kernel_rfl
theorem CQ (w:World) (he:cn w):Calls prog 18 #[.string ⟨#[40,32,49,43,50,32,41,42,51]⟩,.string ⟨#[40,49,43,50,41,42,51]⟩] w fun e w'=>e=.returned (.bool true)∧Below w.heap.size w w' :=
 cH ⟨#[40,32,49,43,50,32,41,42,51]⟩ ⟨#[40,49,43,50,41,42,51]⟩ _ w (by decide) vQ (by rw [o6]; decide) (by rw [o6]) he
theorem vR:bU [49,45,40,50,45,51,41]=([bd 10000,bd 20000,bd 30000,aI 2,aI 2],0,0):=by kernel_rfl
theorem o7:co [bd 10000,bd 20000,bd 30000,aI 2,aI 2]=[49,45,40,50,45,51,41]:=by kernel_rfl
theorem CR (w:World) (he:cn w):Calls prog 18 #[.string ⟨#[49,45,40,50,45,51,41]⟩,.string ⟨#[49,45,40,50,45,51,41]⟩] w fun e w'=>e=.returned (.bool true)∧Below w.heap.size w w' :=
 cH ⟨#[49,45,40,50,45,51,41]⟩ ⟨#[49,45,40,50,45,51,41]⟩ _ w (by decide) vR (by rw [o7]; decide) (by rw [o7]) he
theorem vS:bU [40,49,45,50,41,45,51]=([bd 10000,bd 20000,aI 2,bd 30000,aI 2],0,0):=by kernel_rfl
theorem o8:co [bd 10000,bd 20000,aI 2,bd 30000,aI 2]=[49,45,50,45,51]:=by kernel_rfl
theorem CS (w:World) (he:cn w):Calls prog 18 #[.string ⟨#[40,49,45,50,41,45,51]⟩,.string ⟨#[49,45,50,45,51]⟩] w fun e w'=>e=.returned (.bool true)∧Below w.heap.size w w' :=
 cH ⟨#[40,49,45,50,41,45,51]⟩ ⟨#[49,45,50,45,51]⟩ _ w (by decide) vS (by rw [o8]; decide) (by rw [o8]) he
theorem vT:bU [40,45,50,41,94,50]=([bd 20000,ck,bd 20000,aI 5],0,0):=by kernel_rfl
theorem o9:co [bd 20000,ck,bd 20000,aI 5]=[40,45,50,41,94,50]:=by kernel_rfl
theorem CU (w:World) (he:cn w):Calls prog 18 #[.string ⟨#[40,45,50,41,94,50]⟩,.string ⟨#[40,45,50,41,94,50]⟩] w fun e w'=>e=.returned (.bool true)∧Below w.heap.size w w' :=
 cH ⟨#[40,45,50,41,94,50]⟩ ⟨#[40,45,50,41,94,50]⟩ _ w (by decide) vT (by rw [o9]; decide) (by rw [o9]) he
theorem vU:bU [45,40,50,94,50,41]=([bd 20000,bd 20000,aI 5,ck],0,0):=by kernel_rfl
theorem pf:co [bd 20000,bd 20000,aI 5,ck]=[45,50,94,50]:=by kernel_rfl
theorem CW (w:World) (he:cn w):Calls prog 18 #[.string ⟨#[45,40,50,94,50,41]⟩,.string ⟨#[45,50,94,50]⟩] w fun e w'=>e=.returned (.bool true)∧Below w.heap.size w w' :=
 cH ⟨#[45,40,50,94,50,41]⟩ ⟨#[45,50,94,50]⟩ _ w (by decide) vU (by rw [pf]; decide) (by rw [pf]) he
theorem vV:bU [50,94,40,51,94,50,41]=([bd 20000,bd 30000,bd 20000,aI 5,aI 5],0,0):=by kernel_rfl
theorem pg:co [bd 20000,bd 30000,bd 20000,aI 5,aI 5]=[50,94,51,94,50]:=by kernel_rfl
theorem CX (w:World) (he:cn w):Calls prog 18 #[.string ⟨#[50,94,40,51,94,50,41]⟩,.string ⟨#[50,94,51,94,50]⟩] w fun e w'=>e=.returned (.bool true)∧Below w.heap.size w w' :=
 cH ⟨#[50,94,40,51,94,50,41]⟩ ⟨#[50,94,51,94,50]⟩ _ w (by decide) vV (by rw [pg]; decide) (by rw [pg]) he
theorem vW:bU [40,50,94,51,41,94,50]=([bd 20000,bd 30000,aI 5,bd 20000,aI 5],0,0):=by kernel_rfl
theorem pi:co [bd 20000,bd 30000,aI 5,bd 20000,aI 5]=[40,50,94,51,41,94,50]:=by kernel_rfl
theorem CY (w:World) (he:cn w):Calls prog 18 #[.string ⟨#[40,50,94,51,41,94,50]⟩,.string ⟨#[40,50,94,51,41,94,50]⟩] w fun e w'=>e=.returned (.bool true)∧Below w.heap.size w w' :=
 cH ⟨#[40,50,94,51,41,94,50]⟩ ⟨#[40,50,94,51,41,94,50]⟩ _ w (by decide) vW (by rw [pi]; decide) (by rw [pi]) he
theorem vX:bU [40,53,37,41,94,50]=([bd 50000,bS,bd 20000,aI 5],0,0):=by kernel_rfl
theorem pj:co [bd 50000,bS,bd 20000,aI 5]=[53,37,94,50]:=by kernel_rfl
theorem CZ (w:World) (he:cn w):Calls prog 18 #[.string ⟨#[40,53,37,41,94,50]⟩,.string ⟨#[53,37,94,50]⟩] w fun e w'=>e=.returned (.bool true)∧Below w.heap.size w w' :=
 cH ⟨#[40,53,37,41,94,50]⟩ ⟨#[53,37,94,50]⟩ _ w (by decide) vX (by rw [pj]; decide) (by rw [pj]) he
theorem vY:bU [40,45,53,41,37]=([bd 50000,ck,bS],0,0):=by kernel_rfl
theorem pm:co [bd 50000,ck,bS]=[40,45,53,41,37]:=by kernel_rfl
theorem C0 (w:World) (he:cn w):Calls prog 18 #[.string ⟨#[40,45,53,41,37]⟩,.string ⟨#[40,45,53,41,37]⟩] w fun e w'=>e=.returned (.bool true)∧Below w.heap.size w w' :=
 cH ⟨#[40,45,53,41,37]⟩ ⟨#[40,45,53,41,37]⟩ _ w (by decide) vY (by rw [pm]; decide) (by rw [pm]) he
theorem vZ:bU [115,117,109,40,97,49,58,98,50,44,34,97,34,41]=([aM ⟨1,1,2,2⟩,(⟨1,3,0,[97],R4.zero,0,0,0⟩:Nd),(⟨7,0,0,[],R4.zero,0,9,2⟩:Nd)],0,0):=by kernel_rfl
theorem pp:co [aM ⟨1,1,2,2⟩,(⟨1,3,0,[97],R4.zero,0,0,0⟩:Nd),(⟨7,0,0,[],R4.zero,0,9,2⟩:Nd)]=[83,85,77,40,65,49,58,66,50,44,34,97,34,41]:=by kernel_rfl
theorem C1 (w:World) (he:cn w):Calls prog 18 #[.string ⟨#[115,117,109,40,97,49,58,98,50,44,34,97,34,41]⟩,.string ⟨#[83,85,77,40,65,49,58,66,50,44,34,97,34,41]⟩] w fun e w'=>e=.returned (.bool true)∧Below w.heap.size w w' :=
 cH ⟨#[115,117,109,40,97,49,58,98,50,44,34,97,34,41]⟩ ⟨#[83,85,77,40,65,49,58,66,50,44,34,97,34,41]⟩ _ w (by decide) vZ (by rw [pp]; decide) (by rw [pp]) he
def awT:List Nd:=[aM ⟨1,1,2,2⟩,bd 50000,(⟨7,0,0,[],R4.zero,0,9,2⟩:Nd),bd 20000,aI 3]
def awL:List (List UInt8):=[[42],[32,32,83,85,77],[32,32,32,32,65,49,58,66,50],[32,32,32,32,53],[32,32,50]]
theorem nw:bU [83,85,77,40,65,49,58,66,50,44,53,41,42,50]=(awT,0,0):=by kernel_rfl
theorem uo:(oZ awT).map eN=awL:=by kernel_rfl
theorem BB:olS (awT.map Nd.any)=awL:=by
 obtain ⟨-,hc,-⟩:=ir nw
 rw [ki hc,jA,uo]
theorem AO:gS 4 4 []=([35,78,47,65],0):=by
 rw [jy (.inr (.inr (.inr ⟨rfl,by decide,rfl⟩)))]
 kernel_rfl
theorem vj:gS 0 0 []=([],2):=qM (by rintro (⟨h,-⟩ | ⟨h,-⟩ | ⟨h,-⟩ | ⟨h,-⟩) <;> cases h)
theorem wu {w:World} {b:Nat} {t:TypeId} (l:List (List UInt8)) (h:Blk w b t (bH l).toArray):ax w (some ⟨b,0,none⟩) 1 (rk l):=by
 intro _
 refine ⟨b,0,rfl,h.lt,fun i r hi j v hj => ?_⟩
 unfold rk at hi
 rw [List.getElem?_map] at hi
 obtain ⟨x,hx,rfl⟩:=Option.map_eq_some_iff.1 hi
 have hj0:j=0:=by
  rcases j with - | j
  ·rfl
  cases hj
 subst hj0
 simp only [List.getElem?_cons_zero,Option.some.injEq] at hj
 subst hj
 rw [h.cell]
 simp only [List.getElem?_toArray,Nat.zero_add,Nat.mul_one,Nat.add_zero]
 unfold bH
 rw [List.getElem?_map,hx]
 rfl
theorem gQ (w:World) (he:cn w) :
  Calls prog 7 #[] w fun e w'=>e=.returned (.bool true)∧Below w.heap.size w w':=by
 have HE:=keep he
 obtain ⟨-,hck,hsz,-⟩:=ir nw
 have HSZ:=keep hsz
 have HCK:=keep hck
 have HOL:=keep BB
 clear he hck hsz
 go_enter func7,ntmps7
 go_wp2_with fail
 refine (iP _ _ (by decide) HE.out.1).mono ?_
 rintro e w1 ⟨v,rfl,hown,hb⟩
 rw [show bU (({ data:=#[83,85,77,40,65,49,58,66,50,44,53,41,42,50] }:ByteArray).data.toList)=_ from nw] at hown ⊢
 simp only [] at hown ⊢
 obtain ⟨a,c,rfl⟩:=aQ hown
 obtain ⟨-,hrow⟩:=pD hown
 have HR:=keep hrow
 have H1:=Lib.hid ((Ok.start w).below hb)
 clear hown hrow hb
 go_wp2_with fail
 refine (jN (awT.map Nd.any) a c w1 HSZ.out ⟨by rw [fu]; exact HR.out,HE.out.below H1.out.bel⟩).mono ?_
 rintro e w2 ⟨v,rfl,hown,hb⟩
 rw [HCK.out]
 rw [HOL.out] at hown
 obtain ⟨a2,c2,rfl,-,hrow⟩:=mh hown
 have H2:=Lib.hid (H1.out.below hb)
 have HRL:=keep hrow
 have G2:=Lib.hid (Ok.start w2)
 clear hown hrow hb HR H1
 go_wp2_with fail
 refine (eB 4 4 [] (by decide) (by decide) w2 (HE.out.below H2.out.bel)).mono ?_
 rintro e w3 ⟨rfl,hb⟩
 rw [AO]
 have H3:=Lib.hid (H2.out.below hb)
 have G3:=Lib.hid (G2.out.below hb)
 clear H2 G2 hb
 go_wp2_with fail
 refine (eB 0 0 [] (by decide) (by decide) w3 (HE.out.below H3.out.bel)).mono ?_
 rintro e w4 ⟨rfl,hb⟩
 rw [vj]
 have H4:=Lib.hid (H3.out.below hb)
 have G4:=Lib.hid (G3.out.below hb)
 clear H3 G3 hb
 go_wp2_with fail
 refine (CQ w4 (HE.out.below H4.out.bel)).mono ?_
 rintro e w5 ⟨rfl,hb⟩
 have H5:=Lib.hid (H4.out.below hb)
 have G5:=Lib.hid (G4.out.below hb)
 clear H4 G4 hb
 go_wp2_with fail
 refine (CR w5 (HE.out.below H5.out.bel)).mono ?_
 rintro e w6 ⟨rfl,hb⟩
 have H6:=Lib.hid (H5.out.below hb)
 have G6:=Lib.hid (G5.out.below hb)
 clear H5 G5 hb
 go_wp2_with fail
 refine (CS w6 (HE.out.below H6.out.bel)).mono ?_
 rintro e w7 ⟨rfl,hb⟩
 have H7:=Lib.hid (H6.out.below hb)
 have G7:=Lib.hid (G6.out.below hb)
 clear H6 G6 hb
 go_wp2_with fail
 refine (CU w7 (HE.out.below H7.out.bel)).mono ?_
 rintro e w8 ⟨rfl,hb⟩
 have H8:=Lib.hid (H7.out.below hb)
 have G8:=Lib.hid (G7.out.below hb)
 clear H7 G7 hb
 go_wp2_with fail
 refine (CW w8 (HE.out.below H8.out.bel)).mono ?_
 rintro e w9 ⟨rfl,hb⟩
 have H9:=Lib.hid (H8.out.below hb)
 have G9:=Lib.hid (G8.out.below hb)
 clear H8 G8 hb
 go_wp2_with fail
 refine (CX w9 (HE.out.below H9.out.bel)).mono ?_
 rintro e w10 ⟨rfl,hb⟩
 have H10:=Lib.hid (H9.out.below hb)
 have G10:=Lib.hid (G9.out.below hb)
 clear H9 G9 hb
 go_wp2_with fail
 refine (CY w10 (HE.out.below H10.out.bel)).mono ?_
 rintro e w11 ⟨rfl,hb⟩
 have H11:=Lib.hid (H10.out.below hb)
 have G11:=Lib.hid (G10.out.below hb)
 clear H10 G10 hb
 go_wp2_with fail
 refine (CZ w11 (HE.out.below H11.out.bel)).mono ?_
 rintro e w12 ⟨rfl,hb⟩
 have H12:=Lib.hid (H11.out.below hb)
 have G12:=Lib.hid (G11.out.below hb)
 clear H11 G11 hb
 go_wp2_with fail
 refine (C0 w12 (HE.out.below H12.out.bel)).mono ?_
 rintro e w13 ⟨rfl,hb⟩
 have H13:=Lib.hid (H12.out.below hb)
 have G13:=Lib.hid (G12.out.below hb)
 clear H12 G12 hb
 go_wp2_with fail
 refine (C1 w13 (HE.out.below H13.out.bel)).mono ?_
 rintro e w14 ⟨rfl,hb⟩
 have H14:=Lib.hid (H13.out.below hb)
 have G14:=Lib.hid (G13.out.below hb)
 clear H13 G13 hb
 go_wp2_with fail
 have hblk:=Blk.new w14 9 #[.string ⟨#[42]⟩,.string ⟨#[32,32,83,85,77]⟩,.string ⟨#[32,32,32,32,65,49,58,66,50]⟩,.string ⟨#[32,32,32,32,53]⟩,.string ⟨#[32,32,50]⟩]
 have H15:=Lib.hid (H14.out.alloc_obj (.cells #[.string ⟨#[42]⟩,.string ⟨#[32,32,83,85,77]⟩,.string ⟨#[32,32,32,32,65,49,58,66,50]⟩,.string ⟨#[32,32,32,32,53]⟩,.string ⟨#[32,32,50]⟩] 9))
 have G15:=Lib.hid (G14.out.alloc_obj (.cells #[.string ⟨#[42]⟩,.string ⟨#[32,32,83,85,77]⟩,.string ⟨#[32,32,32,32,65,49,58,66,50]⟩,.string ⟨#[32,32,32,32,53]⟩,.string ⟨#[32,32,50]⟩] 9))
 generalize (w14.alloc (.cells #[.string ⟨#[42]⟩,.string ⟨#[32,32,83,85,77]⟩,.string ⟨#[32,32,32,32,65,49,58,66,50]⟩,.string ⟨#[32,32,32,32,53]⟩,.string ⟨#[32,32,50]⟩] 9))=W15 at hblk H15 G15 ⊢
 have hr2:=wu awL (show Blk W15 w14.heap.size 9 (bH awL).toArray from hblk)
 refine (lN awL a2 (some ⟨w14.heap.size,0,none⟩) c2 5 W15 (by decide) (HRL.out.below G15.out.bel) hr2).mono ?_
 rintro e w16 ⟨rfl,hb⟩
 have H16:=Lib.hid (H15.out.below hb)
 clear H15 G15 H14 G14 hb hr2 hblk HRL HOL
 go_wp2_with fail
 go_ret
 exact ⟨rfl,H16.out.bel⟩
