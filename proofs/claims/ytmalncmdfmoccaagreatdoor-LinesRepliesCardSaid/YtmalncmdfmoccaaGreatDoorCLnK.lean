/- Chapter 42: lines.Parse at a fixed script. Chapter 42: LinesTells. -/
import Derived.Test.YtmalncmdfmoccaaGreatDoorCLnL
namespace Go.Proofs.YtmalncmdfmoccaaGreatDoor
open Go.RowKit
theorem Cut10 (l : List UInt8) (w : World) (hs : l.length < 4294967281) (he : Env6 w) :
    Calls Tryz.prog 41 #[.string ⟨l.toArray⟩,.string ⟨#[10]⟩] w fun e w' => e = .returned (.tuple #[.string ⟨(Lib.cut l [10]).1.toArray⟩,.string ⟨(Lib.cut l [10]).2.1.toArray⟩,.bool (Lib.cut l [10]).2.2]) ∧ Below w.heap.size w w':=by
  obtain ⟨m,hm⟩:=he.2.2.1
  exact (Tryz.strings_Cut ⟨l.toArray⟩ ⟨#[10]⟩ m w hs hm).mono fun _ _ ⟨he,n,hw⟩ => ⟨he,hw ▸ below_drewN (Below.refl _ _) n⟩
theorem kn_cut1 : Lib.cut [98,111,111,107,32,49,32,48,10,120,10] [10] = ([98,111,111,107,32,49,32,48],[120,10],true):=by decide
theorem kn_cut2 : Lib.cut [120,10] [10] = ([120],[],true):=by decide
theorem kn_split1 : Lib.split [98,111,111,107,32,49,32,48] [32] = [98,111,111,107] :: [[49],[48]]:=by decide
theorem kn_split2 : Lib.split [120] [32] = [120] :: []:=by decide
theorem kn_one : numP [49] = some 1:=by decide
theorem kn_zero : numP [48] = some 0:=by decide
theorem kn_book : bookL 1 0 = [98,111,111,107,32,49,32,48]:=by kernel_rfl
theorem kn_miss (rb : Nat) : Instr.findNow .string (.string ⟨[120].toArray⟩) (kindsEs rb).toList 0 = some none:=rfl
set_option maxRecDepth 100000 in
set_option maxHeartbeats 8000000 in
theorem parse_known (w : World) (he : Env6 w) :
    Calls Tryz.prog 12 #[.string ⟨#[98,111,111,107,32,49,32,48,10,120,10]⟩] w fun e w' => e = .returned (.tuple #[.agg #[.int .i64 0,.slice none 0 0,.slice none 0 0,.slice none 0 0,.slice none 0 0,.slice none 0 0,.int .i64 0,.slice none 0 0],.int .i64 2,.int .i64 4]) ∧ Below w.heap.size w w':=by
  have HE:=keep he
  clear he
  obtain ⟨S0,hS0⟩ : ∃ S : ByteArray,⟨#[98,111,111,107,32,49,32,48,10,120,10]⟩ = S:=⟨_,rfl⟩
  have C1:=keep (fun W h => Cut10 [98,111,111,107,32,49,32,48,10,120,10] W (by decide) h)
  rw [kn_cut1,show (([98,111,111,107,32,49,32,48,10,120,10] : List UInt8).toArray) = #[98,111,111,107,32,49,32,48,10,120,10] from rfl,hS0] at C1
  obtain ⟨S1,hS1⟩ : ∃ S : ByteArray,⟨[120,10].toArray⟩ = S:=⟨_,rfl⟩
  have C2:=keep (fun W h => Cut10 [120,10] W (by decide) h)
  rw [kn_cut2,hS1] at C2
  dsimp only at C1 C2
  rw [hS1] at C1
  have hn0 : S0.size = 11:=by rw [← hS0]; rfl
  have hn1 : S1.size = 2:=by rw [← hS1]; rfl
  have he0 : S0.toList.isEmpty = false:=by rw [← hS0,toL]; rfl
  have he1 : S1.toList.isEmpty = false:=by rw [← hS1,toL]; rfl
  have HN1:=keep (show S0.toList.isEmpty = false ∧ S1.toList.isEmpty = false from ⟨he0,he1⟩)
  clear he0 he1 hn1
  rw [hS0]
  have H1:=Lib.hid (((Ok.start w).var w.heap.size 41 [.int .i64 0,.slice none 0 0,.slice none 0 0,.slice none 0 0,.slice none 0 0,.slice none 0 0,.int .i64 0,.slice none 0 0] rfl).var (w.heap.size + 1) 89 [.int .i64 0,.slice none 0 0,.slice none 0 0,.slice none 0 0,.slice none 0 0,.slice none 0 0,.int .i64 0,.slice none 0 0,.int .i64 0,.slice none 0 0,.bool false] (by simp))
  have HR:=keep (show Rd w [kVar w.heap.size 41 [.int .i64 0,.slice none 0 0,.slice none 0 0,.slice none 0 0,.slice none 0 0,.slice none 0 0,.int .i64 0,.slice none 0 0]] (w.heap.size + 1) (.int .i64 0) (.slice none 0 0) (.slice none 0 0) (.slice none 0 0) (.slice none 0 0) (.slice none 0 0) (.int .i64 0) (.slice none 0 0) 0 [] ((w.alloc (.cells #[.int .i64 0,.slice none 0 0,.slice none 0 0,.slice none 0 0,.slice none 0 0,.slice none 0 0,.int .i64 0,.slice none 0 0] 41)).alloc (.cells #[.int .i64 0,.slice none 0 0,.slice none 0 0,.slice none 0 0,.slice none 0 0,.slice none 0 0,.int .i64 0,.slice none 0 0,.int .i64 0,.slice none 0 0,.bool false] 89)) from by
    refine ⟨by omega,by intro y hy; simp at hy; subst hy; show some w.heap.size ≠ some (w.heap.size + 1); simp,none,w.heap.size,0,0,by omega,Nat.le_refl _,by omega,by simp,?_⟩
    refine ⟨H1.out.bel,fun y hy => ?_⟩
    rcases List.mem_cons.1 hy with rfl | hy
    · exact H1.out.all _ (List.mem_cons_self ..)
    rcases List.mem_cons.1 hy with rfl | hy
    · exact ⟨by simp; omega,trivial⟩
    · exact H1.out.all _ (List.mem_cons_of_mem _ hy))
  go_enter Tryz.func12,Tryz.ntmps12
  go_wp2_with fail
  go_loopw [0,3] (fun v0 v3 wr => (v0 = .string S0 ∧ v3 = .int .i64 1 ∧ Keep (Rd w [kVar w.heap.size 41 [.int .i64 0,.slice none 0 0,.slice none 0 0,.slice none 0 0,.slice none 0 0,.slice none 0 0,.int .i64 0,.slice none 0 0]] (w.heap.size + 1) (.int .i64 0) (.slice none 0 0) (.slice none 0 0) (.slice none 0 0) (.slice none 0 0) (.slice none 0 0) (.int .i64 0) (.slice none 0 0) 0 [] wr)) ∨ (v0 = .string S1 ∧ v3 = .int .i64 2 ∧ Keep (Rd w [kVar w.heap.size 41 [.int .i64 0,.slice none 0 0,.slice none 0 0,.slice none 0 0,.slice none 0 0,.slice none 0 0,.int .i64 0,.slice none 0 0]] (w.heap.size + 1) (.int .i64 1) (.slice none 0 0) (.slice none 0 0) (.slice none 0 0) (.slice none 0 0) (.slice none 0 0) (.int .i64 0) (.slice none 0 0) 1 [] wr))) (fun _ v3 _ => 2 - (intOf v3).toNat)
  case atStart => exact .inl ⟨rfl,rfl,HR⟩
  case round =>
    clear HR H1
    rcases hrel with ⟨rfl,rfl,HQ⟩ | ⟨rfl,rfl,HQ⟩
    · obtain ⟨wp,rfl⟩ : ∃ wz : World,wz = wr:=⟨_,rfl⟩
      have h0:=HN1.out.1
      go_wp2_with fail
      refine (C1.out _ (HE.out.below HQ.out.bel)).mono ?_
      rintro e w1 ⟨rfl,hb⟩
      have HQ1:=keep (HQ.out.below hb)
      clear hb HQ
      go_wp2_with fail
      refine (line_book w _ _ 0 0 none 0 0 none 0 0 none 0 0 none 0 0 none 0 0 _ [] _ HQ1.out HE.out [98,111,111,107,32,49,32,48] [49] [48] (by decide) kn_split1 1 0 (by decide) (by decide) kn_one kn_zero kn_book).mono ?_
      rintro e w2 ⟨rfl,h2⟩
      have HQ2:=keep h2
      clear h2 HQ1
      go_wp2_with fail
      go_roundw
      case rel => exact .inr ⟨rfl,rfl,HQ2⟩
      case measure => simp [intOf]
    · obtain ⟨wp,rfl⟩ : ∃ wz : World,wz = wr:=⟨_,rfl⟩
      have h0:=HN1.out.2
      go_wp2_with fail
      refine (C2.out _ (HE.out.below HQ.out.bel)).mono ?_
      rintro e w1 ⟨rfl,hb⟩
      have HQ1:=keep (HQ.out.below hb)
      clear hb HQ
      go_wp2_with fail
      refine (line_none w _ _ _ _ _ _ _ _ _ _ 1 [] _ HQ1.out HE.out [120] [120] [] (by decide) kn_split2 (by decide) (by decide) kn_miss).mono ?_
      rintro e w2 ⟨rfl,h2⟩
      clear HQ1
      obtain ⟨-,-,a,b,i,c,-,-,-,-,h7⟩:=h2
      have H3:=Lib.hid (h7.drop [kVar w.heap.size 41 [.int .i64 0,.slice none 0 0,.slice none 0 0,.slice none 0 0,.slice none 0 0,.slice none 0 0,.int .i64 0,.slice none 0 0]] (by intro y hy; simp at hy ⊢; simp [hy]))
      clear h7
      have F11:=H3.out.sees
      simp only [sees,kVar,cellsAt,Nat.reduceAdd] at F11
      obtain ⟨⟨⟨z0,fz0⟩,c0_0,c0_1,c0_2,c0_3,c0_4,c0_5,c0_6,c0_7,-⟩,-⟩:=F11
      go_wp2_with fail
      have hK:=H3.out.get (kVar (w.heap.size) 41 [.int .i64 0,.slice none 0 0,.slice none 0 0,.slice none 0 0,.slice none 0 0,.slice none 0 0,.int .i64 0,.slice none 0 0]) (by simp)
      have hB:=H3.out.bel
      have hE:=(((((((((show Blk w2 (w.heap.size) 41 _ from hK).set_ 0 (.int .i64 0)).set_ 1 (.slice none 0 0)).set_ 2 (.slice none 0 0)).set_ 3 (.slice none 0 0)).set_ 4 (.slice none 0 0)).set_ 5 (.slice none 0 0)).set_ 6 (.int .i64 0)).set_ 7 (.slice none 0 0))
      have r0:=hE.cell 0
      have r1:=hE.cell 1
      have r2:=hE.cell 2
      have r3:=hE.cell 3
      have r4:=hE.cell 4
      have r5:=hE.cell 5
      have r6:=hE.cell 6
      have r7:=hE.cell 7
      simp at r0 r1 r2 r3 r4 r5 r6 r7
      refine bodyPost_ret (v:=.tuple #[.agg #[.int .i64 0,.slice none 0 0,.slice none 0 0,.slice none 0 0,.slice none 0 0,.slice none 0 0,.int .i64 0,.slice none 0 0],.int .i64 2,.int .i64 4]) (by simp [results,Tryz.results12,go_sem,r0,r1,r2,r3,r4,r5,r6,r7]) rfl ⟨rfl,((((((((hB.setCell (by simp) _).setCell (by simp) _).setCell (by simp) _).setCell (by simp) _).setCell (by simp) _).setCell (by simp) _).setCell (by simp) _).setCell (by simp) _)⟩
theorem kn_good : goodR ⟨5,0,[],[61,65,49],[],[],1⟩:=⟨⟨by decide,by decide,by decide,by kernel_rfl⟩,by simp⟩
theorem kn_text : replyL ⟨5,0,[],[61,65,49],[],[],1⟩ = [114,101,102,117,115,101,100,32,99,111,117,110,116,32,49,32,116,101,120,116,32,34,61,65,49,34]:=by kernel_rfl
theorem kn_ok : RpD.Ok ⟨5,0,[],[61,65,49],[],[],1⟩:=⟨⟨by decide,by decide⟩,⟨by decide,by decide⟩,by simp,by simp,by simp,by simp,by simp,by simp⟩
theorem kn_reply (w : World) (he : LEnv w) : Calls Tryz.prog 9 #[.agg #[.int .u8 5,.int .i64 0,.slice none 0 0,.string ⟨#[61,65,49]⟩,.slice none 0 0,.slice none 0 0,.int .i64 1]] w fun e w' => e = .returned (.tuple #[.string ⟨#[114,101,102,117,115,101,100,32,99,111,117,110,116,32,49,32,116,101,120,116,32,34,61,65,49,34]⟩,.int .i64 0]) ∧ Below w.heap.size w w':=by
  have h:=ln_reply 5 0 [] ⟨#[61,65,49]⟩ [] [] 1 none none none 0 0 0 w kn_ok (by decide) (by decide) (by simp) (fun h => absurd rfl h) (fun h => absurd rfl h) (fun h => absurd rfl h) he
  rw [reply_yes (show goodR ⟨5,0,[],(⟨#[61,65,49]⟩ : ByteArray).data.toList,[],[],1⟩ from kn_good),show replyL ⟨5,0,[],(⟨#[61,65,49]⟩ : ByteArray).data.toList,[],[],1⟩ = [114,101,102,117,115,101,100,32,99,111,117,110,116,32,49,32,116,101,120,116,32,34,61,65,49,34] from kn_text] at h
  exact h
set_option maxRecDepth 100000 in
set_option maxHeartbeats 8000000 in
theorem law_known42 (w : World) (he : LEnv w) : Calls Tryz.prog 7 #[] w fun e w' => e = .returned (.bool true) ∧ Below w.heap.size w w':=by
  have HE:=keep he
  have KR:=keep (fun W h => kn_reply W h)
  have KP:=keep (fun W h => parse_known W h)
  clear he
  obtain ⟨S,hS⟩ : ∃ S : ByteArray,(⟨#[114,101,102,117,115,101,100,32,99,111,117,110,116,32,49,32,116,101,120,116,32,34,61,65,49,34]⟩ : ByteArray) = S:=⟨_,rfl⟩
  rw [hS] at KR
  have HS:=keep hS
  have hss : (S.toList == [114,101,102,117,115,101,100,32,99,111,117,110,116,32,49,32,116,101,120,116,32,34,61,65,49,34]) = true:=by rw [← hS,toL]; rfl
  clear hS
  have H1:=Lib.hid (Ok.start w)
  go_enter Tryz.func7,Tryz.ntmps7
  go_wp2_with fail
  refine (KR.out _ (HE.out.below H1.out.bel)).mono ?_
  rintro e w2 ⟨rfl,hb3⟩
  have H4:=Lib.hid (H1.out.below hb3)
  clear hb3 H1
  go_wp2_with fail
  refine (KP.out _ (HE.out.below H4.out.bel).1).mono ?_
  rintro e w5 ⟨rfl,hb6⟩
  have H7:=Lib.hid (H4.out.below hb6)
  clear hb6 H4
  go_wp2_with fail
  go_ret
  exact ⟨rfl,(H7.out.alloc_obj _).bel⟩
end Go.Proofs.YtmalncmdfmoccaaGreatDoor
namespace Go.Proofs.YtmalncmdfmoccaaGreatDoor
open Go.RowKit
structure RpIn (r : RpD) : Prop where
  code : r.code < 256
  at_ : i64B r.at_
  count : i64B r.count
  nums : ∀ v ∈ r.grid,-9223372036854775808 ≤ v.2.1 ∧ v.2.1 ≤ 9223372036854775807
  evs : ∀ x ∈ r.evs,x.Ok
  rls : ∀ x ∈ r.rls,x.Ok
  gl : r.grid.length ≤ 9223372036854775807
theorem RpIn.ok {r : RpD} (h : RpIn r) (hw : wideB r = false) : r.Ok:=by
  obtain ⟨h1,h2,h3,-,-⟩:=wider_small hw
  exact ⟨h.at_,h.count,h.nums,h.evs,h.rls,by omega,by omega,by omega⟩
end Go.Proofs.YtmalncmdfmoccaaGreatDoor
