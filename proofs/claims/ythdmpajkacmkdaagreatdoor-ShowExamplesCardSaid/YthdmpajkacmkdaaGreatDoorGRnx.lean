/- The reference's judge, Depth and Check, at any nodes. -/
import Derived.Test.YthdmpajkacmkdaaGreatDoorGRnd
import Derived.Test.YthdmpajkacmkdaaGreatDoorGTg
import Derived.Test.YthdmpajkacmkdaaGreatDoorGShn
namespace Go.Proofs.YthdmpajkacmkdaaGreatDoor
set_option maxRecDepth 100000
set_option maxHeartbeats 8000000
open Go.RowKit Go.Proofs.Tryz
theorem gi {w:World} {ta:Option Addr} {rows:List (List Value)} {i:Nat} {a:NdA} (ht:ax w ta 11 rows) (h:rows[i]?=some (bf a)):∃ tb tz,ta=some ⟨tb,tz,none⟩∧tb<w.heap.size∧ag w tb (tz+i * 11) 0 (bf a):=by
 obtain ⟨tb,tz,rfl,htb,htcell⟩:=ht (by intro e; rw [e] at h; simp at h)
 refine ⟨tb,tz,rfl,htb,?_⟩
 have key:∀ j v,(bf a)[j]?=some v→w.cell? ⟨tb,tz+i * 11+j,none⟩=some v:=by
  intro j v hj
  have h9:=htcell i (bf a) h j v hj
  rw [← Nat.add_assoc] at h9
  exact h9
 exact ⟨key 0 _ rfl,key 1 _ rfl,key 2 _ rfl,key 3 _ rfl,key 4 _ rfl,key 5 _ rfl,key 6 _ rfl,key 7 _ rfl,key 8 _ rfl,key 9 _ rfl,key 10 _ rfl,trivial⟩
theorem vz (tl:Nat) (ta:Option Addr) (tc i:Nat) (a:NdA) (sv:Value) (w:World) (rows:List (List Value)) (ht:ax w ta 11 rows) (hr:rows[i]?=some (bf a)) (il:i<tl) (hs:a.vt.length≤4611686018427387904) (hlo : -9223372036854775808≤a.vn) (hb:¬ okA a) :
  Calls prog 126 #[.slice ta tl tc,.int .i64 (i:Nat),sv] w fun e w'=>e=.returned (.tuple #[.slice none 0 0,.int .i64 2])∧Below w.heap.size w w':=by
 obtain ⟨tb,tz,rfl,htb,hcw⟩:=gi ht hr
 have ili:(i:Int)<(tl:Int):=by omega
 have HFB:∀ w,Calls prog 157 #[aA a] w fun e w'=>e=.returned (.bool false)∧Below w.heap.size w w':=by
  intro w2
  have h9:=dI a hs hlo w2
  rw [dh hb] at h9
  exact h9
 clear hb
 obtain ⟨nk,vk,vn,vt,⟨r1,r2,r3,r4⟩,op,fn,nn⟩:=a
 have HF:∀ w,Calls prog 157 #[.agg #[.int .u8 nk,.int .u8 vk,.int .i64 vn,.string ⟨vt.toArray⟩,.int .i64 r1,.int .i64 r2,.int .i64 r3,.int .i64 r4,.int .i64 op,.int .u8 fn,.int .i64 nn]] w fun e w'=>e=.returned (.bool false)∧Below w.heap.size w w':=HFB
 have HFK:=keep HF
 clear HF HFB hs hlo ht hr il
 have H0:=Lib.hid ((Ok.start w).add (aa tb (tz+i * 11) [.int .u8 nk,.int .u8 vk,.int .i64 vn,.string ⟨vt.toArray⟩,.int .i64 r1,.int .i64 r2,.int .i64 r3,.int .i64 r4,.int .i64 op,.int .u8 fn,.int .i64 nn]) ⟨htb,hcw⟩)
 clear hcw htb
 go_enter func126,ntmps126
 have F1:=sE H0
 go_upto_region 2 with fail
 clear F1
 have H2:=Lib.hid (H0.out.alloc w.heap.size 27 [.int .u8 nk,.int .u8 vk,.int .i64 vn,.string ⟨vt.toArray⟩,.int .i64 r1,.int .i64 r2,.int .i64 r3,.int .i64 r4,.int .i64 op,.int .u8 fn,.int .i64 nn] rfl)
 clear H0
 generalize (w.alloc (.cells #[.int .u8 nk,.int .u8 vk,.int .i64 vn,.string ⟨vt.toArray⟩,.int .i64 r1,.int .i64 r2,.int .i64 r3,.int .i64 r4,.int .i64 op,.int .u8 fn,.int .i64 nn] 27))=W3 at H2 ⊢
 have F4:=sE H2
 go_wp2_with fail
 refine cM (HFK.out _) H2 fun w5 H7=>?_
 clear F4 H2
 have F8:=sE H7
 go_wp2_with fail
 exact bodyPost_ret (v:=.tuple #[.slice none 0 0,.int .i64 2]) (by simp [results,results126,go_sem]) rfl ⟨rfl,H7.out.bel⟩
theorem tF (tl:Nat) (ta:Option Addr) (tc i:Nat) (a:NdA) (sv:Value) (w:World) (rows:List (List Value)) (ht:ax w ta 11 rows) (hr:rows[i]?=some (bf a)) (il:i<tl) (hs:a.vt.length≤4611686018427387904) (hlo : -9223372036854775808≤a.vn) (hb:okA a) (h7:a.kind=7) (hN:∀ w,Calls prog 86 #[.int .u8 (a.fn:Nat)] w fun e w'=>e=.returned (.string ⟨#[]⟩)∧Below w.heap.size w w') :
  Calls prog 126 #[.slice ta tl tc,.int .i64 (i:Nat),sv] w fun e w'=>e=.returned (.tuple #[.slice none 0 0,.int .i64 10])∧Below w.heap.size w w':=by
 obtain ⟨tb,tz,rfl,htb,hcw⟩:=gi ht hr
 have ili:(i:Int)<(tl:Int):=by omega
 have HFB:∀ w,Calls prog 157 #[aA a] w fun e w'=>e=.returned (.bool true)∧Below w.heap.size w w':=by
  intro w2
  have h9:=dI a hs hlo w2
  rw [d6 hb] at h9
  exact h9
 clear hb
 have HNM:=keep hN
 clear hN
 have H7K:=keep h7
 clear h7
 obtain ⟨nk,vk,vn,vt,⟨r1,r2,r3,r4⟩,op,fn,nn⟩:=a
 have HF:∀ w,Calls prog 157 #[.agg #[.int .u8 nk,.int .u8 vk,.int .i64 vn,.string ⟨vt.toArray⟩,.int .i64 r1,.int .i64 r2,.int .i64 r3,.int .i64 r4,.int .i64 op,.int .u8 fn,.int .i64 nn]] w fun e w'=>e=.returned (.bool true)∧Below w.heap.size w w':=HFB
 have HFK:=keep HF
 clear HF HFB hs hlo ht hr il
 have H0:=Lib.hid ((Ok.start w).add (aa tb (tz+i * 11) [.int .u8 nk,.int .u8 vk,.int .i64 vn,.string ⟨vt.toArray⟩,.int .i64 r1,.int .i64 r2,.int .i64 r3,.int .i64 r4,.int .i64 op,.int .u8 fn,.int .i64 nn]) ⟨htb,hcw⟩)
 clear hcw htb
 go_enter func126,ntmps126
 have F1:=sE H0
 go_upto_region 2 with fail
 clear F1
 have H2:=Lib.hid (H0.out.alloc w.heap.size 27 [.int .u8 nk,.int .u8 vk,.int .i64 vn,.string ⟨vt.toArray⟩,.int .i64 r1,.int .i64 r2,.int .i64 r3,.int .i64 r4,.int .i64 op,.int .u8 fn,.int .i64 nn] rfl)
 clear H0
 generalize (w.alloc (.cells #[.int .u8 nk,.int .u8 vk,.int .i64 vn,.string ⟨vt.toArray⟩,.int .i64 r1,.int .i64 r2,.int .i64 r3,.int .i64 r4,.int .i64 op,.int .u8 fn,.int .i64 nn] 27))=W3 at H2 ⊢
 have F4:=sE H2
 go_wp2_with fail
 refine cM (HFK.out _) H2 fun w5 H7=>?_
 clear F4 H2
 have F8:=sE H7
 go_upto_region 4 with fail
 have h7b:((nk:Int) == 7)=true:=by have h7:nk=7:=H7K.out; simp [h7]
 go_wp2_with fail
 refine cM (HNM.out _) H7 fun w9 H11=>?_
 clear F8 H7
 have F12:=sE H11
 go_wp2_with fail
 exact bodyPost_ret (v:=.tuple #[.slice none 0 0,.int .i64 10]) (by simp [results,results126,go_sem]) rfl ⟨rfl,H11.out.bel⟩
theorem yN (tl:Nat) (ta:Option Addr) (tc i:Nat) (a:NdA) (sv:Value) (w:World) (rows:List (List Value)) (ht:ax w ta 11 rows) (hr:rows[i]?=some (bf a)) (il:i<tl) (hs:a.vt.length≤4611686018427387904) (hlo : -9223372036854775808≤a.vn) (hb:okA a) (h7:a.kind=7) (f1:1≤a.fn) (f2:a.fn≤50) (hn:a.n<((arS a.fn).1:Nat)) :
  Calls prog 126 #[.slice ta tl tc,.int .i64 (i:Nat),sv] w fun e w'=>e=.returned (.tuple #[.slice none 0 0,.int .i64 11])∧Below w.heap.size w w':=by
 obtain ⟨tb,tz,rfl,htb,hcw⟩:=gi ht hr
 have ili:(i:Int)<(tl:Int):=by omega
 have HFB:∀ w,Calls prog 157 #[aA a] w fun e w'=>e=.returned (.bool true)∧Below w.heap.size w w':=by
  intro w2
  have h9:=dI a hs hlo w2
  rw [d6 hb] at h9
  exact h9
 clear hb
 have H7K:=keep h7
 clear h7
 obtain ⟨nk,vk,vn,vt,⟨r1,r2,r3,r4⟩,op,fn,nn⟩:=a
 have HF:∀ w,Calls prog 157 #[.agg #[.int .u8 nk,.int .u8 vk,.int .i64 vn,.string ⟨vt.toArray⟩,.int .i64 r1,.int .i64 r2,.int .i64 r3,.int .i64 r4,.int .i64 op,.int .u8 fn,.int .i64 nn]] w fun e w'=>e=.returned (.bool true)∧Below w.heap.size w w':=HFB
 have HFK:=keep HF
 clear HF HFB hs hlo ht hr il
 have H0:=Lib.hid ((Ok.start w).add (aa tb (tz+i * 11) [.int .u8 nk,.int .u8 vk,.int .i64 vn,.string ⟨vt.toArray⟩,.int .i64 r1,.int .i64 r2,.int .i64 r3,.int .i64 r4,.int .i64 op,.int .u8 fn,.int .i64 nn]) ⟨htb,hcw⟩)
 clear hcw htb
 go_enter func126,ntmps126
 have F1:=sE H0
 go_upto_region 2 with fail
 clear F1
 have H2:=Lib.hid (H0.out.alloc w.heap.size 27 [.int .u8 nk,.int .u8 vk,.int .i64 vn,.string ⟨vt.toArray⟩,.int .i64 r1,.int .i64 r2,.int .i64 r3,.int .i64 r4,.int .i64 op,.int .u8 fn,.int .i64 nn] rfl)
 clear H0
 generalize (w.alloc (.cells #[.int .u8 nk,.int .u8 vk,.int .i64 vn,.string ⟨vt.toArray⟩,.int .i64 r1,.int .i64 r2,.int .i64 r3,.int .i64 r4,.int .i64 op,.int .u8 fn,.int .i64 nn] 27))=W3 at H2 ⊢
 have F4:=sE H2
 go_wp2_with fail
 refine cM (HFK.out _) H2 fun w5 H7=>?_
 clear F4 H2
 have F8:=sE H7
 have f1:1≤fn:=f1
 have f2:fn≤50:=f2
 have HNM:=keep (fun W=>iF fn W f2)
 obtain ⟨nx,hnx⟩:∃ x,cX fn=x:=⟨_,rfl⟩
 have hne:nx≠[]:=by
  intro e
  rw [← hnx] at e
  have h8:∀ z:Fin 51,1≤z.val→cX z.val≠[]:=by decide
  exact h8 ⟨fn,by omega⟩ f1 e
 rw [hnx] at HNM
 have hneb:(nx == ([]:List UInt8))=false:=by simpa using hne
 have HAR:=keep (fun W=>fL fn W)
 obtain ⟨lo,hlo⟩:∃ x,(arS fn).1=x:=⟨_,rfl⟩
 obtain ⟨hi0,hhi0⟩:∃ x,(arS fn).2=x:=⟨_,rfl⟩
 rw [hlo,hhi0] at HAR
 have g1:nn<(lo:Int):=by rw [← hlo]; exact hn
 clear hnx hne hlo hhi0 hn
 go_upto_region 4 with fail
 have h7b:((nk:Int) == 7)=true:=by have h7:nk=7:=H7K.out; simp [h7]
 go_wp2_with fail
 refine cM (HNM.out _) H7 fun w9 H11=>?_
 clear F8 H7
 have F12:=sE H11
 go_wp2_with fail
 refine (HAR.out _).mono ?_
 rintro e wz9 ⟨rfl,hw⟩
 obtain rfl:w9=wz9:=hw.symm
 go_wp2_with fail
 exact bodyPost_ret (v:=.tuple #[.slice none 0 0,.int .i64 11]) (by simp [results,results126,go_sem]) rfl ⟨rfl,H11.out.bel⟩
theorem yM (tl:Nat) (ta:Option Addr) (tc i:Nat) (a:NdA) (sv:Value) (w:World) (rows:List (List Value)) (ht:ax w ta 11 rows) (hr:rows[i]?=some (bf a)) (il:i<tl) (hs:a.vt.length≤4611686018427387904) (hlo : -9223372036854775808≤a.vn) (hb:okA a) (h7:a.kind=7) (f1:1≤a.fn) (f2:a.fn≤50) (hn:¬ a.n<((arS a.fn).1:Nat)) (hn2:((arS a.fn).2:Nat)<a.n) :
  Calls prog 126 #[.slice ta tl tc,.int .i64 (i:Nat),sv] w fun e w'=>e=.returned (.tuple #[.slice none 0 0,.int .i64 11])∧Below w.heap.size w w':=by
 obtain ⟨tb,tz,rfl,htb,hcw⟩:=gi ht hr
 have ili:(i:Int)<(tl:Int):=by omega
 have HFB:∀ w,Calls prog 157 #[aA a] w fun e w'=>e=.returned (.bool true)∧Below w.heap.size w w':=by
  intro w2
  have h9:=dI a hs hlo w2
  rw [d6 hb] at h9
  exact h9
 clear hb
 have H7K:=keep h7
 clear h7
 obtain ⟨nk,vk,vn,vt,⟨r1,r2,r3,r4⟩,op,fn,nn⟩:=a
 have HF:∀ w,Calls prog 157 #[.agg #[.int .u8 nk,.int .u8 vk,.int .i64 vn,.string ⟨vt.toArray⟩,.int .i64 r1,.int .i64 r2,.int .i64 r3,.int .i64 r4,.int .i64 op,.int .u8 fn,.int .i64 nn]] w fun e w'=>e=.returned (.bool true)∧Below w.heap.size w w':=HFB
 have HFK:=keep HF
 clear HF HFB hs hlo ht hr il
 have H0:=Lib.hid ((Ok.start w).add (aa tb (tz+i * 11) [.int .u8 nk,.int .u8 vk,.int .i64 vn,.string ⟨vt.toArray⟩,.int .i64 r1,.int .i64 r2,.int .i64 r3,.int .i64 r4,.int .i64 op,.int .u8 fn,.int .i64 nn]) ⟨htb,hcw⟩)
 clear hcw htb
 go_enter func126,ntmps126
 have F1:=sE H0
 go_upto_region 2 with fail
 clear F1
 have H2:=Lib.hid (H0.out.alloc w.heap.size 27 [.int .u8 nk,.int .u8 vk,.int .i64 vn,.string ⟨vt.toArray⟩,.int .i64 r1,.int .i64 r2,.int .i64 r3,.int .i64 r4,.int .i64 op,.int .u8 fn,.int .i64 nn] rfl)
 clear H0
 generalize (w.alloc (.cells #[.int .u8 nk,.int .u8 vk,.int .i64 vn,.string ⟨vt.toArray⟩,.int .i64 r1,.int .i64 r2,.int .i64 r3,.int .i64 r4,.int .i64 op,.int .u8 fn,.int .i64 nn] 27))=W3 at H2 ⊢
 have F4:=sE H2
 go_wp2_with fail
 refine cM (HFK.out _) H2 fun w5 H7=>?_
 clear F4 H2
 have F8:=sE H7
 have f1:1≤fn:=f1
 have f2:fn≤50:=f2
 have HNM:=keep (fun W=>iF fn W f2)
 obtain ⟨nx,hnx⟩:∃ x,cX fn=x:=⟨_,rfl⟩
 have hne:nx≠[]:=by
  intro e
  rw [← hnx] at e
  have h8:∀ z:Fin 51,1≤z.val→cX z.val≠[]:=by decide
  exact h8 ⟨fn,by omega⟩ f1 e
 rw [hnx] at HNM
 have hneb:(nx == ([]:List UInt8))=false:=by simpa using hne
 have HAR:=keep (fun W=>fL fn W)
 obtain ⟨lo,hlo⟩:∃ x,(arS fn).1=x:=⟨_,rfl⟩
 obtain ⟨hi0,hhi0⟩:∃ x,(arS fn).2=x:=⟨_,rfl⟩
 rw [hlo,hhi0] at HAR
 have g1:¬ nn<(lo:Int):=by rw [← hlo]; have h8:=hn; omega
 have g2:nn>(hi0:Int):=by rw [← hhi0]; have h8:=hn2; omega
 clear hnx hne hlo hhi0 hn hn2
 go_upto_region 4 with fail
 have h7b:((nk:Int) == 7)=true:=by have h7:nk=7:=H7K.out; simp [h7]
 go_wp2_with fail
 refine cM (HNM.out _) H7 fun w9 H11=>?_
 clear F8 H7
 have F12:=sE H11
 go_wp2_with fail
 refine (HAR.out _).mono ?_
 rintro e wz9 ⟨rfl,hw⟩
 obtain rfl:w9=wz9:=hw.symm
 go_wp2_with fail
 exact bodyPost_ret (v:=.tuple #[.slice none 0 0,.int .i64 11]) (by simp [results,results126,go_sem]) rfl ⟨rfl,H11.out.bel⟩
theorem qW (fn:Nat) (w:World) (h:fn=0∨50<fn) (hf:fn≤255) :
  Calls prog 86 #[.int .u8 (fn:Nat)] w fun e w'=>e=.returned (.string ⟨#[]⟩)∧Below w.heap.size w w':=by
 rcases h with rfl | h
 ·exact iF 0 w (Nat.zero_le _)
 obtain ⟨W1,hW1⟩:∃ W1,W1=(w.alloc (.cells #[.string ⟨#[]⟩,.string ⟨#[65,66,83]⟩,.string ⟨#[83,73,71,78]⟩,.string ⟨#[73,78,84]⟩,.string ⟨#[84,82,85,78,67]⟩,.string ⟨#[82,79,85,78,68]⟩,.string ⟨#[77,79,68]⟩,.string ⟨#[80,79,87,69,82]⟩,.string ⟨#[83,81,82,84]⟩,.string ⟨#[83,85,77]⟩,.string ⟨#[80,82,79,68,85,67,84]⟩,.string ⟨#[67,79,85,78,84]⟩,.string ⟨#[67,79,85,78,84,65]⟩,.string ⟨#[67,79,85,78,84,66,76,65,78,75]⟩,.string ⟨#[65,86,69,82,65,71,69]⟩,.string ⟨#[77,73,78]⟩,.string ⟨#[77,65,88]⟩,.string ⟨#[77,69,68,73,65,78]⟩,.string ⟨#[76,65,82,71,69]⟩,.string ⟨#[83,77,65,76,76]⟩,.string ⟨#[73,70]⟩,.string ⟨#[65,78,68]⟩,.string ⟨#[79,82]⟩,.string ⟨#[88,79,82]⟩,.string ⟨#[78,79,84]⟩,.string ⟨#[73,70,69,82,82,79,82]⟩,.string ⟨#[73,83,69,82,82,79,82]⟩,.string ⟨#[73,83,66,76,65,78,75]⟩,.string ⟨#[73,83,78,85,77,66,69,82]⟩,.string ⟨#[73,83,84,69,88,84]⟩,.string ⟨#[67,72,79,79,83,69]⟩,.string ⟨#[76,69,78]⟩,.string ⟨#[76,69,70,84]⟩,.string ⟨#[82,73,71,72,84]⟩,.string ⟨#[77,73,68]⟩,.string ⟨#[85,80,80,69,82]⟩,.string ⟨#[76,79,87,69,82]⟩,.string ⟨#[84,82,73,77]⟩,.string ⟨#[67,79,78,67,65,84]⟩,.string ⟨#[82,69,80,84]⟩,.string ⟨#[69,88,65,67,84]⟩,.string ⟨#[70,73,78,68]⟩,.string ⟨#[86,65,76,85,69]⟩,.string ⟨#[73,78,68,69,88]⟩,.string ⟨#[77,65,84,67,72]⟩,.string ⟨#[67,79,85,78,84,73,70]⟩,.string ⟨#[68,83,85,77]⟩,.string ⟨#[68,67,79,85,78,84]⟩,.string ⟨#[68,65,86,71]⟩,.string ⟨#[68,77,73,78]⟩,.string ⟨#[68,77,65,88]⟩] 9)):=⟨_,rfl⟩
 have HB:=Lib.hid (show Below w.heap.size w W1 from hW1▸(Below.refl w.heap.size w).alloc (Nat.le_refl _) _)
 dsimp only at hW1
 have HW1:=keep hW1
 clear hW1
 have hfi:(51:Int)≤(fn:Int):=by omega
 have hfw:wrap64 (fn:Int)=(fn:Int):=Go.IntWalk.wrap64_in _ (by omega)
 clear h
 go_enter func86,ntmps86
 go_upto_region 2 with fail
 rw [← HW1.out]
 clear HW1
 go_wp2_with fail
 go_ret
 exact ⟨rfl,HB.out⟩
noncomputable def iR (T:List Nd) (st:List Pt) (i:Nat) (a:NdA):Except Int (List Pt):=if ay a≠0 then .error (ay a) else stepW T st i a.nd
theorem fh {r:Except Int (List Pt)} {c:Int} {w w':World} {e:Ending} (h:r=.error c) (h1:e=.returned (.tuple #[.slice none 0 0,.int .i64 c])∧Below w.heap.size w w'):lu r w e w':=by
 subst h
 exact h1
theorem q8 (t:List NdA) (T:List Nd) (hT:T=t.map NdA.nd) (ta:Option Addr) (tc i:Nat) (a:NdA) (st:List Pt) (sv:Value) (B:Nat) (w:World) (ht:ax w ta 11 (t.map bf)) (htl:t.length≤1000) (hn:t[i]?=some a) (hgood:∀ k b,k<i→t[k]?=some b→ay b=0)
  (hs:a.vt.length≤4611686018427387904) (hlo : -9223372036854775808≤a.vn) (hf255:a.fn≤255) (hst:∀ p∈st,p.root<i∧p.depth≤32∧p.wide=decide (bR T p.root=3)) (hsl:st.length≤1000) (hB:B≤w.heap.size) (hS:w.ownsRow B 116 2 sv st.length (aY st)) :
  Calls prog 126 #[.slice ta t.length tc,.int .i64 (i:Nat),sv] w (lu (iR T st i a) w):=by
 have il:i<t.length:=(List.getElem?_eq_some_iff.1 hn).1
 have hr:(t.map bf)[i]?=some (bf a):=by rw [List.getElem?_map,hn]; rfl
 by_cases h0:ay a=0
 ·have hTn:T[i]?=some a.nd:=by rw [hT,List.getElem?_map,hn]; rfl
  have e:iR T st i a=stepW T st i a.nd:=if_neg (by rw [h0]; decide)
  rw [e]
  have h:=tU T ta tc i a.nd st sv B w (t.map bf) ht (fun k m hk hm=>by
   rw [hT,List.getElem?_map] at hm
   obtain ⟨b,hb,rfl⟩:=Option.map_eq_some_iff.1 hm
   have hb0:ay b=0:=by
    rcases Nat.lt_or_ge k i with h | h
    ·exact hgood k b h hb
    obtain rfl:k=i:=by omega
    rw [hn] at hb; cases hb; exact h0
   rw [List.getElem?_map,hb,A5 b (cW hb0).2.1]
   rfl) (by rw [hT,List.length_map]; exact htl) hTn (cW h0).1 hst hsl hB hS
  have hl:T.length=t.length:=by rw [hT,List.length_map]
  rw [hl] at h
  exact h
 have e:iR T st i a=.error (ay a):=if_pos h0
 by_cases hok:okA a
 ·by_cases h7:a.kind=7
  ·by_cases hf:a.fn=0∨50<a.fn
   ·rw [j3 hok h7 hf] at e
    refine (tF t.length ta tc i a sv w _ ht hr il hs hlo hok h7 (fun w=>qW a.fn w hf hf255)).mono ?_
    exact fun _ _ h=>fh e h
   by_cases hc:a.n<((arS a.fn).1:Nat)∨((arS a.fn).2:Nat)<a.n
   ·rw [fX hok h7 hf hc] at e
    by_cases hlo2:a.n<((arS a.fn).1:Nat)
    ·exact (yN t.length ta tc i a sv w _ ht hr il hs hlo hok h7 (by omega) (by omega) hlo2).mono fun _ _ h=>fh e h
    exact (yM t.length ta tc i a sv w _ ht hr il hs hlo hok h7 (by omega) (by omega) hlo2 (hc.resolve_left hlo2)).mono fun _ _ h=>fh e h
   exact absurd (jb hok h7 hf hc) h0
  exact absurd (bp hok h7) h0
 rw [aT hok] at e
 exact (vz t.length ta tc i a sv w _ ht hr il hs hlo hok).mono fun _ _ h=>fh e h
theorem wl {t:List Nd} {st:List Pt} {i:Nat} {n:Nd} {c:Int} (h:stepW t st i n=.error c):(c != 0)=true:=by
 unfold stepW at h
 split at h
 ·cases h; rfl
 split at h
 ·cases h; rfl
 split at h
 ·cases h; rfl
 cases h
theorem ri {t:List Nd} {st st2:List Pt} {i:Nat} {n:Nd} (h:stepW t st i n=.ok st2):∃ d D,st2=st.take d++[⟨i,D,decide (n.kind=3)⟩]:=by
 unfold stepW at h
 split at h
 ·cases h
 split at h
 ·cases h
 split at h
 ·cases h
 cases h
 exact ⟨_,_,rfl⟩
theorem tY {T:List Nd} {st:List Pt} {i:Nat} {a:NdA} {c:Int} (h:iR T st i a=.error c):(c != 0)=true:=by
 unfold iR at h
 split at h
 ·injection h with h; subst h; simpa using (by assumption:ay a≠0)
 exact wl h
theorem wg {T:List Nd} {st st2:List Pt} {i:Nat} {a:NdA} (h:iR T st i a=.ok st2):ay a=0∧stepW T st i a.nd=.ok st2:=by
 unfold iR at h
 by_cases h0:ay a=0
 ·rw [if_neg (by rw [h0]; decide)] at h; exact ⟨h0,h⟩
 rw [if_pos h0] at h; cases h
theorem rB (T:List Nd) (i:Nat) (a:NdA) (l:List NdA) (st:List Pt):cu T i (a::l) st=match iR T st i a with
  | .error e=>.error e
  | .ok s2=>cu T (i+1) l s2:=by
 rw [cu]
 unfold iR
 by_cases h0:ay a=0
 ·rw [if_neg (by rw [h0]; decide),if_neg (by rw [h0]; decide)]
  cases stepW T st i a.nd <;> rfl
 rw [if_pos h0,if_pos h0]
theorem q7 (t:List NdA) (T:List Nd) (hT:T=t.map NdA.nd) (ta:Option Addr) (tc:Nat) (w:World) (ht:ax w ta 11 (t.map bf)) (htl:t.length≤1000) (htx:∀ a∈t,a.vt.length≤4611686018427387904∧-9223372036854775808≤a.vn∧a.fn≤255) :
  Calls prog 82 #[.slice ta t.length tc] w (lu (cu T 0 t []) w):=by
 have HT:=keep ht
 have HG:=keep htx
 have HTT:=keep hT
 clear ht htx hT
 obtain ⟨tl,htl2⟩:=ex (t.length)
 rw [htl2] at htl ⊢
 have HTL:=keep htl2
 clear htl2
 obtain ⟨V,hV⟩:=ex (cu T 0 t [])
 rw [hV]
 have HV:=keep hV
 clear hV
 go_enter func82,ntmps82
 go_wp2_with fail
 go_loopg [4,5] tl (fun gf sv iv wr=>∃ (i:Nat) (st:List Pt),gf=tl - i∧iv=.int .i64 (i:Int)∧i≤tl∧st.length≤i∧bh (lm T t i st)∧bh (∀ k b,k<i→t[k]?=some b→ay b=0)∧bh (∀ p∈st,p.wide=decide (bR T p.root=3))∧Hid (ai w [] 116 2 sv st.length (aY st) wr))
 case atStart=>exact ⟨0,[],by simp,rfl,Nat.zero_le _,Nat.zero_le _,keep ⟨rfl,by simp,rfl⟩,keep (fun k b h=>absurd h (Nat.not_lt_zero _)),keep (by simp),Lib.hid (ai.start (Ok.start w) _ _)⟩
 case round =>
  obtain ⟨i,st,hgf,rfl,hit,hsl,HK,HGD,HW,HR⟩:=hrel
  obtain ⟨wp,rfl⟩:∃ wp:World,wp=wr:=⟨_,rfl⟩
  obtain ⟨sv,rfl⟩:∃ sv:Value,sv=u4:=⟨_,rfl⟩
  subst hgf
  by_cases hlt:(i:Int)<tl
  ·have hil:i<t.length:=by rw [HTL.out]; omega
   have HIL:=keep hil
   obtain ⟨n,hn⟩:=ex (t[i]'HIL.out)
   have HN:=keep hn
   have hn2:t[i]?=some n:=by rw [List.getElem?_eq_getElem hil,hn]
   have hgn:=HG.out n (by rw [← hn]; exact List.getElem_mem _)
   have HN2:=keep hn2
   have hst:∀ p∈st,p.root<i∧p.depth≤32∧p.wide=decide (bR T p.root=3):=fun p hp=>⟨(HK.out.low p hp).1,(HK.out.low p hp).2,HW.out p hp⟩
   have hcall:=q8 t T HTT.out ta tc i n st sv w.heap.size wp (HT.out.below HR.out.ok.bel) (by rw [HTL.out]; exact htl) hn2 HGD.out hgn.1 hgn.2.1 hgn.2.2 hst (by omega) HR.out.ok.bel.size HR.out.own
   rw [HTL.out] at hcall
   have HCALL:=keep hcall
   have HKA:=keep (show bR T i=n.kind by unfold bR; rw [HTT.out,List.getElem?_map,hn2]; rfl)
   obtain ⟨R,hR⟩:=ex (iR T st i n)
   rw [hR] at HCALL
   have HRR:=keep hR
   clear hil hn hn2 hgn hst hcall hR
   cases R with
   | error c =>
    have hc:=tY HRR.out
    go_wp2_with fail
    refine (HCALL.out).mono ?_
    rintro e w7 ⟨rfl,hb⟩
    have HB7:=Lib.hid (HR.out.ok.bel.trans (hb.mono HR.out.ok.bel.size))
    clear hb HR HCALL
    have hv:V=.error c:=by
     rw [← HV.out,HK.out.run,List.drop_eq_getElem_cons HIL.out,HN.out,rB,HRR.out]
    subst hv
    go_wp2_with fail
    exact bodyPost_ret (v:=.tuple #[.slice none 0 0,.int .i64 c]) (by simp [results,results82,go_sem]) rfl ⟨rfl,HB7.out⟩
   | ok st2 =>
    go_wp2_with fail
    refine (HCALL.out).mono ?_
    rintro e w7 ⟨v,rfl,hown,hb⟩
    have HR7:=Lib.hid (ai.of_new HR.out.ok hb hown)
    clear hb hown HR HCALL
    go_wp2_with fail
    go_roundg (tl - (i+1))
    case rel =>
     obtain ⟨hf0,hs0⟩:=wg HRR.out
     obtain ⟨hgd,-,hany⟩:=cW hf0
     obtain ⟨d,D,hsh⟩:=ri hs0
     refine ⟨i+1,st2,rfl,by go_num,by omega,?_,keep (HK.out.next HTT.out HIL.out (by rw [HN.out]; exact hany) hgd hs0),keep ?_,keep ?_,HR7⟩
     ·rw [hsh,List.length_append,List.length_take,List.length_singleton]
      omega
     ·intro k b hk hb
      rcases Nat.lt_or_ge k i with h | h
      ·exact HGD.out k b h hb
      obtain rfl:k=i:=by omega
      rw [HN2.out] at hb
      cases hb
      exact hf0
     intro p hp
     rw [hsh] at hp
     rcases List.mem_append.1 hp with hp | hp
     ·exact HW.out p (List.mem_of_mem_take hp)
     simp only [List.mem_singleton] at hp
     subst hp
     show decide (n.kind=3)=decide (bR T i=3)
     rw [HKA.out]
    case measure=>omega
  obtain rfl:i=tl:=by omega
  have hv:V=.ok st:=by
   rw [← HV.out,HK.out.run,List.drop_of_length_le (by rw [HTL.out]; exact Nat.le_refl _)]
   rfl
  subst hv
  go_wp2_with fail
  exact bodyPost_ret (v:=.tuple #[sv,.int .i64 0]) (by simp [results,results82,go_sem]) rfl ⟨sv,rfl,HR.out.own,HR.out.ok.bel⟩
theorem q5 (t:List NdA) (ta:Option Addr) (tc:Nat) (w:World) (ht:ax w ta 11 (t.map bf)) (htl:t.length≤1000) (htx:∀ a∈t,a.vt.length≤4611686018427387904∧-9223372036854775808≤a.vn∧a.fn≤255) :
  Calls prog 46 #[.slice ta t.length tc] w fun e w'=>∃ d:Int,e=.returned (.tuple #[.int .i64 d,.int .i64 (aC t)])∧Below w.heap.size w w':=by
 have HJ:=keep (q7 t (t.map NdA.nd) rfl ta tc w ht htl htx)
 have HT:=keep ht
 clear ht htx
 obtain ⟨tl,htl2⟩:=ex (t.length)
 rw [htl2] at htl HJ ⊢
 have HTL:=keep htl2
 clear htl2
 obtain ⟨V,hV⟩:=ex (aC t)
 rw [hV]
 have HV:=keep hV
 clear hV
 by_cases h256:256<tl
 ·have h256i:(tl:Int)>256:=by omega
  have hv:V=5:=by rw [← HV.out]; exact kJ (by rw [HTL.out]; exact h256)
  subst hv
  have HB:=Lib.hid (Below.refl w.heap.size w)
  go_enter func46,ntmps46
  go_wp2_with fail
  exact bodyPost_ret (v:=.tuple #[.int .i64 0,.int .i64 5]) (by simp [results,results46,go_sem]) rfl ⟨0,rfl,HB.out⟩
 have h256i:¬ (tl:Int)>256:=by omega
 have HNL:=keep (show ¬ 256<t.length by rw [HTL.out]; exact h256)
 cases hw:cu (t.map NdA.nd) 0 t [] with
 | error c =>
  rw [hw] at HJ
  have h1:t≠[]:=by rintro rfl; rw [cu] at hw; cases hw
  have h2:=kD _ _ _ _ _ hw
  have hE:bO t=c:=by unfold bO; rw [hw]
  have hc0:c≠0:=h2
  have hv:V=c:=by rw [← HV.out,iY HNL.out h1 (by rw [hE]; exact hc0),hE]
  subst hv
  clear hw h1 hE
  have h2b:(V != 0)=true:=by simpa using h2
  clear h2 hc0
  go_enter func46,ntmps46
  go_wp2_with fail
  refine (HJ.out).mono ?_
  rintro e w7 ⟨rfl,hb⟩
  have HB7:=Lib.hid hb
  clear hb HJ
  go_wp2_with fail
  exact bodyPost_ret (v:=.tuple #[.int .i64 0,.int .i64 V]) (by simp [results,results46,go_sem]) rfl ⟨0,rfl,HB7.out⟩
 | ok st =>
  rw [hw] at HJ
  have hE:bO t=if st.length=1 then 0 else 4:=by unfold bO; rw [hw]
  have HE:=keep hE
  have HWW:=keep hw
  clear hw hE
  obtain ⟨m,hm⟩:=ex (st.length)
  have HM:=keep hm
  clear hm
  by_cases h1:m=1
  ·subst h1
   have h0:t≠[]:=by
    rintro rfl
    have h9:=HWW.out
    simp [cu] at h9
    have h8:=HM.out
    rw [h9] at h8
    simp at h8
   have hE0:bO t=0:=by rw [HE.out,if_pos HM.out]
   have hil:tl - 1<t.length:=by
    have:=List.length_pos_iff.2 h0
    rw [HTL.out] at this ⊢
    omega
   obtain ⟨n,hn⟩:∃ n,t[tl - 1]?=some n:=⟨_,List.getElem?_eq_getElem hil⟩
   obtain ⟨nk,hnk⟩:=ex (n.kind)
   have hv:V=if nk=3 then 4 else 0:=by rw [← HV.out]; exact kI HNL.out h0 hE0 (by rw [HTL.out]; exact hn) hnk
   obtain ⟨x,hx⟩:=ex (tl - 1)
   rw [hx] at hn
   obtain ⟨tb,tz,rfl,htb,htcell⟩:=HT.out (by intro e; exact h0 (List.map_eq_nil_iff.1 e))
   have hcl:=htcell x (bf n) (by rw [List.getElem?_map,hn]; rfl) 0 (.int .u8 (n.kind:Nat)) rfl
   rw [hnk,← Nat.add_assoc] at hcl
   simp only [Nat.add_zero] at hcl
   have hxl:x+1=tl:=by
    rw [HTL.out] at hil
    omega
   have hxi:(x:Int)<(tl:Int):=by omega
   have hxe:(tl:Int) - 1=(x:Int):=by omega
   have hxw:IntKind.i64.wrap (x:Int)=(x:Int):=Go.IntWalk.i64_in _ (by omega)
   have HCL:=keep hcl
   have HTB:=keep htb
   have HVV:=keep hv
   clear hcl hn htcell hil h0 hE0 hx hxl hv htb hnk
   go_enter func46,ntmps46
   go_wp2_with fail
   refine (HJ.out).mono ?_
   rintro e w7 ⟨v,rfl,hown,hb⟩
   rw [HM.out] at hown
   have hlt:=hown.lt
   have hoc:=@World.ownsRow.cells _ _ _ _ _ _ _ hown
   rcases hown.2 with ⟨_,h9⟩ | ⟨g,cap,cur,rfl,_,_,hcap,_,_,_⟩
   ·omega
   obtain ⟨p,hp⟩:∃ p,st=[p]:=List.length_eq_one_iff.1 HM.out
   have hd:=hoc rfl 1 (.int .i64 (p.depth:Nat)) (by rw [hp]; rfl)
   rw [nr] at hd
   have hgl:=(hlt g rfl).2
   have hcl2:=(hb.cell HTB.out).trans HCL.out
   have htb2:tb<w7.heap.size:=Nat.lt_of_lt_of_le HTB.out hb.size
   have HB7:=Lib.hid hb
   clear hb hown hoc hlt HJ
   by_cases h3:nk=3
   ·subst h3
    have hv2:V=4:=HVV.out
    subst hv2
    go_wp2_with fail
    exact bodyPost_ret (v:=.tuple #[.int .i64 0,.int .i64 4]) (by simp [results,results46,go_sem]) rfl ⟨0,rfl,HB7.out⟩
   have hv2:V=0:=by rw [HVV.out,if_neg h3]
   subst hv2
   have h3b:((nk:Int) == 3)=false:=by simp; omega
   clear h3
   go_wp2_with fail
   exact bodyPost_ret (v:=.tuple #[.int .i64 (p.depth:Nat),.int .i64 0]) (by simp [results,results46,go_sem]) rfl ⟨_,rfl,HB7.out⟩
  have hv:V=4:=by
   rw [← HV.out]
   by_cases h0:t=[]
   ·subst h0; exact kK
   have hE4:bO t=4:=by rw [HE.out,if_neg (by rw [HM.out]; exact h1)]
   rw [iY HNL.out h0 (by rw [hE4]; decide),hE4]
  subst hv
  have h1b:((m:Int) != 1)=true:=by simp; omega
  clear h1
  go_enter func46,ntmps46
  go_wp2_with fail
  refine (HJ.out).mono ?_
  rintro e w7 ⟨v,rfl,hown,hb⟩
  rw [HM.out] at hown
  have HB7:=Lib.hid hb
  obtain ⟨va,vc,rfl⟩:∃ va vc,v=.slice va m vc:=by
   rcases hown.2 with ⟨rfl,h9⟩ | ⟨g,cap,cur,rfl,_⟩
   ·exact ⟨none,0,by rw [h9]⟩
   exact ⟨_,_,rfl⟩
  clear hb hown HJ
  go_wp2_with fail
  exact bodyPost_ret (v:=.tuple #[.int .i64 0,.int .i64 4]) (by simp [results,results46,go_sem]) rfl ⟨0,rfl,HB7.out⟩
theorem kY (t:List NdA) (ta:Option Addr) (tc:Nat) (w:World) (ht:ax w ta 11 (t.map bf)) (htl:t.length≤1000) (htx:∀ a∈t,a.vt.length≤4611686018427387904∧-9223372036854775808≤a.vn∧a.fn≤255) :
  Calls prog 22 #[.slice ta t.length tc] w fun e w'=>e=.returned (.int .i64 (aC t))∧Below w.heap.size w w':=by
 have HC:=keep (q5 t ta tc w ht htl htx)
 clear ht htl htx
 obtain ⟨tl,htl2⟩:=ex (t.length)
 rw [htl2] at HC ⊢
 clear htl2
 obtain ⟨V,hV⟩:=ex (aC t)
 rw [hV] at HC ⊢
 clear hV
 go_enter func22,ntmps22
 go_wp2_with fail
 refine HC.out.mono ?_
 rintro e w1 ⟨d,rfl,hb⟩
 have HB:=Lib.hid hb
 clear hb HC
 go_wp2_with fail
 go_ret
 exact ⟨rfl,HB.out⟩
