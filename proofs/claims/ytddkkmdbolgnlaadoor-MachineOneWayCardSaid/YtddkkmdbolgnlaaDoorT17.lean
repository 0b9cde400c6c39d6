/- A part of the proof: steps of the walk and laws that the claim's theorem rests on; each lemma states its own conditions. -/
import Derived.Test.YtddkkmdbolgnlaaDoorT16
import Derived.Test.YtddkkmdbolgnlaaDoorWalkF
import Derived.Test.YtddkkmdbolgnlaaDoorProg
set_option linter.unusedVariables false
set_option linter.unusedSimpArgs false
namespace Go.Proofs.YtddkkmdbolgnlaaDoor.Fw
open Go.Proofs
set_option maxRecDepth 100000
set_option linter.unusedVariables false
set_option linter.unusedSimpArgs false
theorem tF69_7_n : offT Tryd.prog 69 7 = some 25 := by kernel_rfl
theorem tA67_n : aggT Tryd.prog 67 = some false := by kernel_rfl
theorem tE67_n : sliceT Tryd.prog 67 = some 72 := by kernel_rfl
theorem okF67_n : okFn Tryd.prog 67 Tryd.f67 := ⟨Tryd.func67, by kernel_rfl, rfl⟩
theorem tMixed_n : Tryd.prog.follows .mixedOrders = true := by kernel_rfl
theorem tF69_4_n : offT Tryd.prog 69 4 = some 22 := by kernel_rfl
theorem tA3_n : aggT Tryd.prog 3 = some false := by kernel_rfl
theorem tF69_6_n : offT Tryd.prog 69 6 = some 24 := by kernel_rfl
theorem tF69_5_n : offT Tryd.prog 69 5 = some 23 := by kernel_rfl
theorem tSt72_n : structT Tryd.prog 72 = some [(0, 1), (1, 1), (2, 1)] := by kernel_rfl
theorem tZ72_n : zeroT Tryd.prog 72 = some (.agg [(.int .i64 0), (.int .i64 0), (.int .i64 0)].toArray) := by kernel_rfl
theorem tS72_n : szT Tryd.prog 72 = some 3 := by kernel_rfl
theorem tB72_n : bytesT Tryd.prog 72 = some 24 := by kernel_rfl
theorem tS67_n : szT Tryd.prog 67 = some 1 := by kernel_rfl
theorem tF69_0_n : offT Tryd.prog 69 0 = some 0 := by kernel_rfl
theorem tF26_1_n : offT Tryd.prog 26 1 = some 1 := by kernel_rfl
theorem tA23_n : aggT Tryd.prog 23 = some false := by kernel_rfl
theorem tE23_n : sliceT Tryd.prog 23 = some 64 := by kernel_rfl
theorem tS64_n : szT Tryd.prog 64 = some 3 := by kernel_rfl
theorem tF64_1_n : offT Tryd.prog 64 1 = some 1 := by kernel_rfl
theorem tS3_n : szT Tryd.prog 3 = some 1 := by kernel_rfl
theorem tA64_n : aggT Tryd.prog 64 = some true := by kernel_rfl
theorem tZ64_n : zeroT Tryd.prog 64 = some (.agg [(.int .i64 0), (.int .i64 0), (.int .i64 0)].toArray) := by kernel_rfl
theorem tF64_2_n : offT Tryd.prog 64 2 = some 2 := by kernel_rfl
theorem okF59_n : okFn Tryd.prog 59 Tryd.f59 := ⟨Tryd.func59, by kernel_rfl, rfl⟩
theorem tZ66_n : zeroT Tryd.prog 66 = some (.agg [(.int .i64 0), (.int .i64 0), (.int .i64 0), (.int .i64 0), (.int .i64 0), (.int .i64 0), (.int .i64 0), (.int .i64 0), (.int .i64 0), (.int .i64 0), (.int .i64 0), (.int .i64 0), (.int .i64 0), (.int .i64 0), (.int .i64 0), (.int .i64 0)].toArray) := by kernel_rfl
theorem tAr66_n : arrT Tryd.prog 66 = some (16, 2) := by kernel_rfl
theorem tS2_n : szT Tryd.prog 2 = some 1 := by kernel_rfl
theorem tF69_3_n : offT Tryd.prog 69 3 = some 6 := by kernel_rfl
theorem tF64_0_n : offT Tryd.prog 64 0 = some 0 := by kernel_rfl
theorem tS66_n : szT Tryd.prog 66 = some 16 := by kernel_rfl
theorem enter_spec (c : CodeD) (m : MachD) (bm Em Eh : Nat) (C : Chunk) (I : Mem) (k : Nat) (hk : k < c.fns.length) (hM : MC I c m bm Em Eh C) (hw : WFm c m) : SpecE Tryd.prog 64 [.pointer (some ⟨bm, 0, none⟩), .int .i64 (k : Int)] I C (fun v I' C' => m.calls.length + 1 ≠ 32 ∧ v = .int .i64 (fnOf c k).begin_ ∧ I' = I ∧ MC I c (enterM c m k) bm Em Eh C') (fun v I' C' => v = stopV 92 4 ∧ m.calls.length + 1 = 32 ∧ I' = I ∧ MC I c m bm Em Eh C') := by
  obtain ⟨h, Cw, Cc, Cp, hM5, rfl⟩ := hM
  obtain ⟨v1, v2, v3, bh, Aw, kw, Ac, kc, Ai, ki, Ap, kp⟩ := h
  obtain ⟨hcode, hW, hC, hP, hIn, hInN, hInL⟩ := hM5
  dsimp only at hcode hW hC hP hIn hInN hInL
  have hcode0 := hcode
  obtain ⟨⟨A1, q1, rfl, hm1, hc1, hS1⟩, ⟨A2, q2, rfl, hm2, hc2, hS2⟩, ⟨A3, q3, rfl, hm3, hc3, hS3⟩, hmain⟩ := hcode
  generalize hmh : (⟨.slice A1 c.shapes.length q1, .slice A2 c.fns.length q2, .slice A3 c.list.length q3, bh, Aw, kw, Ac, kc, Ai, ki, Ap, kp⟩ : MH) = hh
  have hr : (mvOf hh c.main m).regs.length = 16 := by rw [mvOf, ints_len]; exact hw.regs
  subst hmh
  have hcl := hw.clen
  have hf0 := hw.frame0
  have hf1 := hw.frame1
  have hfn0 := hw.fn0
  have hfn1 := hw.fn1
  have hat0 := hw.at0
  have hat1 := hw.at1
  have hll := hw.may.wf.l2
  refine SpecE.intro Tryd.func64 rfl rfl fun Γ => ?_
  show WC _ _ _ _ [] [(0, _), (1, _)] _ _ _
  refine WC.regroup [mcObj bm Em (mvOf ⟨.slice A1 c.shapes.length q1, .slice A2 c.fns.length q2, .slice A3 c.list.length q3, bh, Aw, kw, Ac, kc, Ai, ki, Ap, kp⟩ c.main m), Cw, hpObj bh Eh m.heap, Cc, Cp] (by simp) ?_
  refine WC.seq ?_
  refine WC.region ?_
  refine WL.assign rfl rfl ?_
  refine WL.nil ?_
  refine WE.then_normal ?_
  refine WC.seq ?_
  refine WC.seq ?_
  refine WC.region ?_
  refine WL.move rfl rfl ?_
  refine WL.nilCheck rfl rfl ?_
  refine WL.fieldAddr rfl tF69_7_n rfl ?_
  refine WL.load_own 0 rfl rfl tA67_n (mc25 hr) rfl ?_
  refine WL.len_slice rfl tE67_n rfl ?_
  first | refine WL.add rfl rfl (by omega) rfl ?_ | refine WL.arith rfl rfl rfl rfl ?_
  refine WL.arith rfl rfl rfl rfl ?_
  refine WL.nil ?_
  refine WE.then_normal ?_
  refine WC.condT rfl (fun h1 => ?_) (fun h1 => ?_)
  · try simp at h1
    try (exfalso; omega)
    all_goals (
      refine WC.region ?_
      refine WL.perm (fun _ hs => hs.nilTop) ?_
      refine WL.callE (dd := some 14) okF67_n rfl rfl (trap_spec _ I) (fun v I1 C1 _ hv => False.elim hv) (fun v I1 C1 _ hv => ?_)
      obtain ⟨hv1, hv2, hv3⟩ := hv
      have hv2 := hv2.symm
      subst hv1; subst hv2; subst hv3
      refine WE.then_panic ?_
      refine WE.pick [1, 2, 3, 4, 5] rfl rfl ?_
      refine WE.perm (fun w hs => hs.join5) ?_
      refine WE.panicE ?_
      exact ⟨rfl, by omega, rfl, ⟨_, _, _, bh, Aw, kw, Ac, kc, Ai, ki, Ap, kp⟩, Cw, Cc, Cp, ⟨hcode0, hW, hC, hP, hIn, hInN, hInL⟩, rfl⟩
    )
  · try simp at h1
    try (exfalso; omega)
    all_goals (
      refine WC.skip ?_
      refine WE.then_normal ?_
      refine WC.seq ?_
      refine WC.region_staged (g := 23) (e := 19) [0, 1, 2, 4] tMixed_n rfl rfl (fun hI0 => ?_)
      refine WS.float (k := 0) rfl (by kernel_rfl) (by kernel_rfl) (by kernel_rfl) rfl calm_no ?_
      refine WL.move rfl rfl ?_
      refine WL.nil ?_
      refine WS.onwardF ?_
      refine WS.float (k := 1) rfl (by kernel_rfl) (by kernel_rfl) (by kernel_rfl) rfl calm_no ?_
      refine WL.move rfl rfl ?_
      refine WL.nil ?_
      refine WS.onwardF ?_
      refine WS.float (k := 2) rfl (by kernel_rfl) (by kernel_rfl) (by kernel_rfl) rfl calm_no ?_
      refine WL.nilCheck rfl rfl ?_
      refine WL.nil ?_
      refine WS.onwardF ?_
      refine WS.float (k := 3) rfl (by kernel_rfl) (by kernel_rfl) (by kernel_rfl) rfl calm_no ?_
      refine WL.fieldAddr rfl tF69_7_n rfl ?_
      refine WL.nil ?_
      refine WS.onwardF ?_
      refine WS.float (k := 4) rfl (by kernel_rfl) (by kernel_rfl) (by kernel_rfl) rfl calm_no ?_
      refine WL.load_own 0 rfl rfl tA67_n (mc25 hr) rfl ?_
      refine WL.nil ?_
      refine WS.onwardF ?_
      refine WS.own (k := 5) rfl (by kernel_rfl) (by kernel_rfl) (by kernel_rfl) rfl calm_no ?_
      refine WL.move rfl rfl ?_
      refine WL.nil ?_
      refine WS.onward ?_
      refine WS.own (k := 6) rfl (by kernel_rfl) (by kernel_rfl) (by kernel_rfl) rfl calm_no ?_
      refine WL.nilCheck rfl rfl ?_
      refine WL.nil ?_
      refine WS.onward ?_
      refine WS.own (k := 7) rfl (by kernel_rfl) (by kernel_rfl) (by kernel_rfl) rfl calm_no ?_
      refine WL.fieldAddr rfl tF69_4_n rfl ?_
      refine WL.nil ?_
      refine WS.onward ?_
      refine WS.own (k := 8) rfl (by kernel_rfl) (by kernel_rfl) (by kernel_rfl) rfl calm_no ?_
      refine WL.load_own 0 rfl rfl tA3_n (mc22 hr) rfl ?_
      refine WL.nil ?_
      refine WS.onward ?_
      refine WS.own (k := 9) rfl (by kernel_rfl) (by kernel_rfl) (by kernel_rfl) rfl calm_no ?_
      first | refine WL.add rfl rfl (by omega) rfl ?_ | refine WL.arith rfl rfl rfl rfl ?_
      refine WL.nil ?_
      refine WS.onward ?_
      refine WS.own (k := 10) rfl (by kernel_rfl) (by kernel_rfl) (by kernel_rfl) rfl calm_no ?_
      refine WL.move rfl rfl ?_
      refine WL.nil ?_
      refine WS.onward ?_
      refine WS.own (k := 11) rfl (by kernel_rfl) (by kernel_rfl) (by kernel_rfl) rfl calm_no ?_
      refine WL.nilCheck rfl rfl ?_
      refine WL.nil ?_
      refine WS.onward ?_
      refine WS.own (k := 12) rfl (by kernel_rfl) (by kernel_rfl) (by kernel_rfl) rfl calm_no ?_
      refine WL.fieldAddr rfl tF69_6_n rfl ?_
      refine WL.nil ?_
      refine WS.onward ?_
      refine WS.own (k := 13) rfl (by kernel_rfl) (by kernel_rfl) (by kernel_rfl) rfl calm_no ?_
      refine WL.load_own 0 rfl rfl tA3_n (mc24 hr) rfl ?_
      refine WL.nil ?_
      refine WS.onward ?_
      refine WS.own (k := 14) rfl (by kernel_rfl) (by kernel_rfl) (by kernel_rfl) rfl calm_no ?_
      refine WL.move rfl rfl ?_
      refine WL.nil ?_
      refine WS.onward ?_
      refine WS.own (k := 15) rfl (by kernel_rfl) (by kernel_rfl) (by kernel_rfl) rfl calm_no ?_
      refine WL.nilCheck rfl rfl ?_
      refine WL.nil ?_
      refine WS.onward ?_
      refine WS.own (k := 16) rfl (by kernel_rfl) (by kernel_rfl) (by kernel_rfl) rfl calm_no ?_
      refine WL.fieldAddr rfl tF69_5_n rfl ?_
      refine WL.nil ?_
      refine WS.onward ?_
      refine WS.own (k := 17) rfl (by kernel_rfl) (by kernel_rfl) (by kernel_rfl) rfl calm_no ?_
      refine WL.load_own 0 rfl rfl tA3_n (mc23 hr) rfl ?_
      refine WL.nil ?_
      refine WS.onward ?_
      refine WS.own (k := 18) rfl (by kernel_rfl) (by kernel_rfl) (by kernel_rfl) rfl calm_no ?_
      refine WL.build_struct rfl tZ72_n tSt72_n rfl rfl rfl ?_
      refine WL.nil ?_
      refine WS.onward ?_
      refine WS.touch (k := 19) rfl (by kernel_rfl) rfl ?_
      refine WL.buildSlice_lit rfl tE67_n tS72_n tZ72_n rfl rfl rfl rfl rfl rfl rfl (fun b2 => ?_)
      refine WL.nil ?_
      refine WS.next (e' := 20) rfl (.inr (pickW (ks := [1, 2, 3, 5]) rfl rfl (Mem.le_refl _) hI0)) ?_
      refine WS.touch (k := 20) rfl (by kernel_rfl) rfl ?_
      refine WL.append_own 4 rfl rfl tE67_n tS72_n tB72_n tZ72_n rfl rfl rfl (fun C' => rfl) hC (callCells_len m.calls) (.slice tE67_n (AtW.lit (k := 0) rfl) rfl rfl) (by omega) (by omega) rfl (fun A' cap' C' hC' => ?_)
      refine WL.nil ?_
      refine WS.next (e' := 23) rfl (.inr (pickW (ks := [1, 2, 3, 5]) rfl rfl (Mem.le_refl _) hI0)) ?_
      refine WS.own (k := 21) rfl (by kernel_rfl) (by kernel_rfl) (by kernel_rfl) rfl calm_no ?_
      refine WL.nilCheck rfl rfl ?_
      refine WL.nil ?_
      refine WS.onward ?_
      refine WS.own (k := 22) rfl (by kernel_rfl) (by kernel_rfl) (by kernel_rfl) rfl calm_no ?_
      refine WL.fieldAddr rfl tF69_7_n rfl ?_
      refine WL.nil ?_
      refine WS.onward ?_
      refine WS.touch (k := 23) rfl (by kernel_rfl) rfl ?_
      refine WL.store_mc 1 rfl rfl rfl rfl tS67_n rfl hr rfl (mcs25 hr) rfl ?_
      refine WL.nil ?_
      refine WS.next (e' := 24) rfl (.inl rfl) ?_
      refine WS.doneC (by kernel_rfl) ?_
      refine WE.then_normal ?_
      refine WC.seq ?_
      refine WC.region_tail 19 tMixed_n (by kernel_rfl) rfl rfl ?_
      obtain ⟨f0, hf0⟩ : ∃ x, c.fns[m.fn.toNat]? = some x := ⟨_, List.getElem?_eq_getElem (by omega)⟩
      have hf0w := hw.may.wf.fn _ f0 hf0
      have hfe := fnOf_at hf0
      obtain ⟨bf, of_, uf, rfl, hul, hrowf, rfl, hfr1, hfr2, hfr3⟩ := hS2 _ f0 hf0
      obtain ⟨g0, hg0⟩ : ∃ x, c.fns[k]? = some x := ⟨_, List.getElem?_eq_getElem (by omega)⟩
      have hg0w := hw.may.wf.fn _ g0 hg0
      have hge : fnOf c (k : Int) = g0 := fnOf_at hg0
      obtain ⟨bg, og, ug, hAe, hulg, hrowg, rfl, hgr1, hgr2, hgr3⟩ := hS2 _ g0 hg0
      obtain ⟨rfl, rfl⟩ : bf = bg ∧ of_ = og := by
        injection hAe with e
        injection e with e1 e2
        exact ⟨e1, e2⟩
      refine WL.move rfl rfl ?_
      refine WL.nilCheck rfl rfl ?_
      refine WL.fieldAddr rfl tF69_6_n rfl ?_
      refine WL.load_own 1 rfl rfl tA3_n (mc24 hr) rfl ?_
      refine WL.move rfl rfl ?_
      refine WL.nilCheck rfl rfl ?_
      refine WL.fieldAddr rfl tF69_0_n rfl ?_
      refine WL.fieldAddr rfl tF26_1_n rfl ?_
      refine WL.load_own 1 rfl rfl tA23_n mc1 rfl ?_
      refine WL.move rfl rfl ?_
      refine WL.nilCheck rfl rfl ?_
      refine WL.fieldAddr rfl tF69_5_n rfl ?_
      refine WL.load_own 1 rfl rfl tA3_n (mc23 hr) rfl ?_
      refine WL.indexAddr rfl rfl tE23_n tS64_n rfl (by first | omega) ?_
      refine WL.fieldAddr rfl tF64_1_n rfl ?_
      refine WL.load_imm rfl tA3_n rfl (by first | exact hrowf 1 _ rfl | exact hrowf 0 _ rfl) ?_
      first | refine WL.add rfl rfl (by omega) rfl ?_ | refine WL.arith rfl rfl rfl rfl ?_
      refine WL.nilCheck rfl rfl ?_
      refine WL.fieldAddr rfl tF69_6_n rfl ?_
      refine WL.nil ?_
      refine WE.tail ?_
      refine WL.store_mc 1 rfl rfl rfl rfl tS3_n rfl hr rfl (mcs24 hr) rfl ?_
      refine WL.nil ?_
      refine WE.then_normal ?_
      refine WC.seq ?_
      refine WC.region ?_
      refine WL.move rfl rfl ?_
      refine WL.move rfl rfl ?_
      refine WL.nilCheck rfl rfl ?_
      refine WL.fieldAddr rfl tF69_5_n rfl ?_
      refine WL.store_mc 1 rfl rfl rfl rfl tS3_n rfl hr rfl (mcs23 hr) rfl ?_
      refine WL.nil ?_
      refine WE.then_normal ?_
      refine WC.seq ?_
      refine WC.region ?_
      refine WL.move rfl rfl ?_
      refine WL.nilCheck rfl rfl ?_
      refine WL.fieldAddr rfl tF69_0_n rfl ?_
      refine WL.fieldAddr rfl tF26_1_n rfl ?_
      refine WL.load_own 1 rfl rfl tA23_n mc1 rfl ?_
      refine WL.move rfl rfl ?_
      refine WL.indexAddr rfl rfl tE23_n tS64_n rfl (by first | omega) ?_
      refine WL.load_imm_agg rfl tA64_n tS64_n rfl (by first | exact hrowg) (by first | rfl | assumption) ?_
      refine WL.alloc tZ64_n rfl rfl (fun b3 => ?_)
      refine WL.store 0 rfl rfl rfl rfl tS64_n rfl rfl rfl rfl rfl ?_
      refine WL.nil ?_
      refine WE.then_normal ?_
      refine WC.seq ?_
      refine WC.seq ?_
      refine WC.region ?_
      refine WL.fieldAddr rfl tF64_2_n rfl ?_
      refine WL.load_own 0 rfl rfl tA3_n rfl rfl ?_
      refine WL.assign rfl rfl ?_
      refine WL.nil ?_
      refine WE.then_normal ?_
      refine WC.block ?_
      refine WC.pick [2, 3, 4, 5, 6, 0] rfl rfl ?_
      refine WC.loopG (X := Nat × List Int × Option Addr × Nat × Chunk) [0, 4, 5, 85, 86, 87, 88, 89, 90] rfl (fun x => [(6, .int .i64 (g0.params + (x.1 : Int)))]) (fun x => I) (fun x => [mcObj bm Em { { mvOf ⟨.slice A1 c.shapes.length q1, .slice (some ⟨bf, of_, none⟩) c.fns.length q2, .slice A3 c.list.length q3, bh, Aw, kw, Ac, kc, Ai, ki, Ap, kp⟩ c.main m with cv := .slice A' (m.calls.length + 1) cap', frame := .int .i64 (m.frame + f0.words), fn := .int .i64 (k : Int) } with wv := .slice x.2.2.1 x.2.1.length x.2.2.2.1 }, x.2.2.2.2, hpObj bh Eh m.heap, C', Cp, [(b3, .cells [.int .i64 g0.begin_, .int .i64 g0.words, .int .i64 g0.params].toArray 64 (0, 0))]]) (fun x => (x.1 : Int) ≤ g0.words - g0.params ∧ clrW x.2.1 (m.frame + f0.words) ((g0.words - g0.params).toNat - x.1) (g0.params + (x.1 : Int)) = (clrW m.words (m.frame + f0.words) (g0.words - g0.params).toNat g0.params) ∧ SlO 1 (ints x.2.1) x.2.2.1 x.2.2.2.1 x.2.2.2.2 ∧ x.2.1.length ≤ 524661) (fun x => (g0.words - g0.params).toNat - x.1) (0, m.words, Aw, kw, Cw) (⟨by simp only; omega, by simp, hW, hw.wlen⟩) ⟨congrArg (fun z => some (Value.int .i64 z)) (by simp), trivial⟩ (rfl) (rfl) (fun x hinv => ?_)
      obtain ⟨q, ws, A, kx, Cx⟩ := x
      obtain ⟨hq, hcl, hS, hwl⟩ := hinv
      simp only at hq hcl hS hwl
      dsimp only
      refine WC.seq ?_
      refine WC.seq ?_
      refine WC.region ?_
      refine WL.move rfl rfl ?_
      refine WL.fieldAddr rfl tF64_1_n rfl ?_
      refine WL.load_own 5 rfl rfl tA3_n rfl rfl ?_
      refine WL.arith rfl rfl rfl rfl ?_
      refine WL.nil ?_
      refine WE.then_normal ?_
      refine WC.condT rfl (fun h4 => ?_) (fun h4 => ?_)
      · try simp at h4
        try (exfalso; omega)
        all_goals (
          refine WC.skip ?_
          refine WE.then_normal ?_
          refine WC.seq ?_
          refine WC.block ?_
          refine WC.region ?_
          refine WL.move rfl rfl ?_
          refine WL.move rfl rfl ?_
          refine WL.nilCheck rfl rfl ?_
          refine WL.fieldAddr rfl tF69_6_n rfl ?_
          refine WL.load_own 0 rfl rfl tA3_n (mc24 hr) rfl ?_
          refine WL.move rfl rfl ?_
          first | refine WL.add rfl rfl (by omega) rfl ?_ | refine WL.arith rfl rfl rfl rfl ?_
          refine WL.perm (fun _ hs => hs.join) ?_
          refine WL.callS (dd := some 84) okF59_n rfl rfl (set27_spec ({ { mvOf ⟨.slice A1 c.shapes.length q1, .slice (some ⟨bf, of_, none⟩) c.fns.length q2, .slice A3 c.list.length q3, bh, Aw, kw, Ac, kc, Ai, ki, Ap, kp⟩ c.main m with cv := .slice A' (m.calls.length + 1) cap', frame := .int .i64 (m.frame + f0.words), fn := .int .i64 (k : Int) } with wv := .slice A ws.length kx }) (ws) (A) (kx) (Cx) bm Em (m.frame + f0.words + (g0.params + (q : Int))) (0) _ hr rfl hS hwl) (fun v1 I1 C1 _ hv => ?_)
          obtain ⟨hI1, A1', k1', Cw1', rfl, hS1⟩ := hv
          have hI1 := hI1.symm
          subst hI1
          refine WL.perm (fun _ hs => hs.part) ?_
          refine WL.nil ?_
          refine WE.block_normal ?_
          refine WE.then_normal ?_
          refine WC.region ?_
          refine WL.move rfl rfl ?_
          first | refine WL.add rfl rfl (by omega) rfl ?_ | refine WL.arith rfl rfl rfl rfl ?_
          refine WL.assign rfl rfl ?_
          refine WL.nil ?_
          refine WE.backG (q + 1, setM ws (m.frame + f0.words + (g0.params + (q : Int))) 0, A1', k1', Cw1') (⟨by simp only; omega, by rw [← hcl, show (g0.words - g0.params).toNat - q = ((g0.words - g0.params).toNat - (q + 1)) + 1 by omega, clrW]; simp only; rw [show g0.params + ((q + 1 : Nat) : Int) = g0.params + (q : Int) + 1 by omega], hS1, setM_le hwl⟩) (by simp only; omega) ⟨congrArg (fun z => some (Value.int .i64 z)) (by simp only; omega), trivial⟩ (by repeat (first | exact trivial | refine ⟨rfl, ?_⟩)) (rfl) (rfl)
        )
      · try simp at h4
        try (exfalso; omega)
        all_goals (
          refine WC.exit ?_
          refine WE.then_exit ?_
          refine WE.then_exit ?_
          refine WE.block_exit ?_
          refine WE.then_normal ?_
          refine WC.seq ?_
          refine WC.region ?_
          refine WL.move rfl rfl ?_
          refine WL.build_arr rfl tZ66_n tAr66_n tS2_n rfl rfl rfl ?_
          refine WL.nilCheck rfl rfl ?_
          refine WL.fieldAddr rfl tF69_3_n rfl ?_
          refine WL.store_mcs 0 rfl rfl rfl rfl tS66_n rfl rfl hr rfl (mcs_regs rfl hr) rfl ?_
          refine WL.nil ?_
          refine WE.then_normal ?_
          refine WC.seq ?_
          refine WC.region ?_
          refine WL.fieldAddr rfl tF64_0_n rfl ?_
          refine WL.load_own 5 rfl rfl tA3_n rfl rfl ?_
          refine WL.assign rfl rfl ?_
          refine WL.nil ?_
          refine WE.then_normal ?_
          refine WC.ret ?_
          have hqe : (g0.words - g0.params).toNat - q = 0 := by omega
          rw [hqe, clrW] at hcl
          subst hcl
          refine WE.pick [0, 1, 2, 3, 4] rfl rfl ?_
          refine WE.perm (fun w hs => hs.join5) ?_
          refine WE.retE rfl (.cons (.tmp rfl) .nil) rfl ?_
          rw [hge]
          refine ⟨by omega, rfl, rfl, ?_⟩
          unfold enterM
          simp only
          rw [hfe, hge]
          have hC2 : SlO 3 (callCells m.calls ++ callRow (m.at_ + 1, m.frame, m.fn)) A' cap' C' := hC'
          rw [← callCells_snoc] at hC2
          refine ⟨⟨_, _, _, bh, A, kx, A', cap', Ai, ki, Ap, kp⟩, Cx, C', Cp, ⟨hcode0, hS, hC2, hP, hIn, hInN, hInL⟩, ?_⟩
          have hlen : (m.calls ++ [(m.at_ + 1, m.frame, m.fn)]).length = m.calls.length + 1 := by simp
          simp only [mvOf, hlen]
          rfl
        )
    )
end Go.Proofs.YtddkkmdbolgnlaaDoor.Fw
