/- A part of the proof: steps of the walk and laws that the claim's theorem rests on; each lemma states its own conditions. -/
import Derived.Test.YtddkkmdbolgnlaaDoorT18
import Derived.Test.YtddkkmdbolgnlaaDoorProg
set_option linter.unusedVariables false
set_option linter.unusedSimpArgs false
namespace Go.Proofs.YtddkkmdbolgnlaaDoor.Fw
open Go.Proofs
set_option maxRecDepth 100000
set_option linter.unusedVariables false
set_option linter.unusedSimpArgs false
theorem tMixed_q : Tryd.prog.follows .mixedOrders = true := by kernel_rfl
theorem tF69_0_q : offT Tryd.prog 69 0 = some 0 := by kernel_rfl
theorem tF26_2_q : offT Tryd.prog 26 2 = some 2 := by kernel_rfl
theorem tA24_q : aggT Tryd.prog 24 = some false := by kernel_rfl
theorem tF69_4_q : offT Tryd.prog 69 4 = some 22 := by kernel_rfl
theorem tA3_q : aggT Tryd.prog 3 = some false := by kernel_rfl
theorem tE24_q : sliceT Tryd.prog 24 = some 75 := by kernel_rfl
theorem tS75_q : szT Tryd.prog 75 = some 5 := by kernel_rfl
theorem tA75_q : aggT Tryd.prog 75 = some true := by kernel_rfl
theorem tZ75_q : zeroT Tryd.prog 75 = some (.agg [(.int .u8 0), (.int .i64 0), (.int .i64 0), (.int .i64 0), (.int .i64 0)].toArray) := by kernel_rfl
theorem tF75_2_q : offT Tryd.prog 75 2 = some 2 := by kernel_rfl
theorem tF69_3_q : offT Tryd.prog 69 3 = some 6 := by kernel_rfl
theorem tAr66_q : arrT Tryd.prog 66 = some (16, 2) := by kernel_rfl
theorem tS2_q : szT Tryd.prog 2 = some 1 := by kernel_rfl
theorem tA2_q : aggT Tryd.prog 2 = some false := by kernel_rfl
theorem tF75_3_q : offT Tryd.prog 75 3 = some 3 := by kernel_rfl
theorem tF75_1_q : offT Tryd.prog 75 1 = some 1 := by kernel_rfl
theorem tF75_0_q : offT Tryd.prog 75 0 = some 0 := by kernel_rfl
theorem tA73_q : aggT Tryd.prog 73 = some false := by kernel_rfl
theorem tF75_4_q : offT Tryd.prog 75 4 = some 4 := by kernel_rfl
theorem tS3_q : szT Tryd.prog 3 = some 1 := by kernel_rfl
theorem tF69_6_q : offT Tryd.prog 69 6 = some 24 := by kernel_rfl
theorem okF31_q : okFn Tryd.prog 31 Tryd.f31 := ⟨Tryd.func31, by kernel_rfl, rfl⟩
theorem okF59_q : okFn Tryd.prog 59 Tryd.f59 := ⟨Tryd.func59, by kernel_rfl, rfl⟩
theorem tF26_0_q : offT Tryd.prog 26 0 = some 0 := by kernel_rfl
theorem tA22_q : aggT Tryd.prog 22 = some false := by kernel_rfl
theorem tE22_q : sliceT Tryd.prog 22 = some 52 := by kernel_rfl
theorem tS52_q : szT Tryd.prog 52 = some 2 := by kernel_rfl
theorem tF52_1_q : offT Tryd.prog 52 1 = some 1 := by kernel_rfl
theorem tA50_q : aggT Tryd.prog 50 = some false := by kernel_rfl
theorem tE50_q : sliceT Tryd.prog 50 = some 83 := by kernel_rfl
theorem tS83_q : szT Tryd.prog 83 = some 3 := by kernel_rfl
theorem tA83_q : aggT Tryd.prog 83 = some true := by kernel_rfl
theorem tZ83_q : zeroT Tryd.prog 83 = some (.agg [(.int .i64 0), (.int .i64 0), (.int .i64 0)].toArray) := by kernel_rfl
theorem tF83_0_q : offT Tryd.prog 83 0 = some 0 := by kernel_rfl
theorem okF60_q : okFn Tryd.prog 60 Tryd.f60 := ⟨Tryd.func60, by kernel_rfl, rfl⟩
theorem okF61_q : okFn Tryd.prog 61 Tryd.f61 := ⟨Tryd.func61, by kernel_rfl, rfl⟩
theorem okF62_q : okFn Tryd.prog 62 Tryd.f62 := ⟨Tryd.func62, by kernel_rfl, rfl⟩
theorem okF63_q : okFn Tryd.prog 63 Tryd.f63 := ⟨Tryd.func63, by kernel_rfl, rfl⟩
theorem okF64_q : okFn Tryd.prog 64 Tryd.f64 := ⟨Tryd.func64, by kernel_rfl, rfl⟩
theorem okF65_q : okFn Tryd.prog 65 Tryd.f65 := ⟨Tryd.func65, by kernel_rfl, rfl⟩
theorem tF69_1_q : offT Tryd.prog 69 1 = some 4 := by kernel_rfl
theorem tA61_q : aggT Tryd.prog 61 = some false := by kernel_rfl
theorem okF66_q : okFn Tryd.prog 66 Tryd.f66 := ⟨Tryd.func66, by kernel_rfl, rfl⟩
theorem okF67_q : okFn Tryd.prog 67 Tryd.f67 := ⟨Tryd.func67, by kernel_rfl, rfl⟩
theorem okF68_q : okFn Tryd.prog 68 Tryd.f68 := ⟨Tryd.func68, by kernel_rfl, rfl⟩
theorem tF69_8_q : offT Tryd.prog 69 8 = some 26 := by kernel_rfl
theorem tA27_q : aggT Tryd.prog 27 = some false := by kernel_rfl
theorem tE27_q : sliceT Tryd.prog 27 = some 2 := by kernel_rfl
theorem tS27_q : szT Tryd.prog 27 = some 1 := by kernel_rfl
theorem tF69_9_q : offT Tryd.prog 69 9 = some 27 := by kernel_rfl
theorem tF34_4_q : offT Tryd.prog 34 4 = some 4 := by kernel_rfl
theorem tZ2_q : zeroT Tryd.prog 2 = some (.int .i64 0) := by kernel_rfl
theorem tB2_q : bytesT Tryd.prog 2 = some 8 := by kernel_rfl
theorem do_spec (c : CodeD) (m : MachD) (i : InstrD) (f : FnD) (bm Em Eh : Nat) (C : Chunk) (I : Mem) (hM : MC I c m bm Em Eh C) (hw : WFm c m) (hk : m.kind = 1) (hpl : m.printed.length ≤ 16777216) (hi : InsW c m i f) : SpecE Tryd.prog 38 [.pointer (some ⟨bm, 0, none⟩)] I C (fun v I' C' => ∃ m', doM c m i = .ok m' ∧ I' = I ∧ MC I c m' bm Em Eh C') (fun v I' C' => ∃ t, doM c m i = .trap t ∧ v = stopV 92 t ∧ I' = I ∧ MC I c m bm Em Eh C') := by
  have hM0 := hM
  obtain ⟨h, Cw, Cc, Cp, hM5, rfl⟩ := hM
  obtain ⟨v1, v2, v3, bh, Aw, kw, Ac, kc, Ai, ki, Ap, kp⟩ := h
  obtain ⟨hcode, hW, hC, hP, hIn, hInN, hInL⟩ := hM5
  dsimp only at hcode hW hC hP hIn hInN hInL
  have hcode0 := hcode
  obtain ⟨⟨A1, q1, rfl, hm1, hc1, hS1⟩, ⟨A2, q2, rfl, hm2, hc2, hS2⟩, ⟨A3, q3, rfl, hm3, hc3, hS3⟩, hmain⟩ := hcode
  generalize hmh : (⟨.slice A1 c.shapes.length q1, .slice A2 c.fns.length q2, .slice A3 c.list.length q3, bh, Aw, kw, Ac, kc, Ai, ki, Ap, kp⟩ : MH) = hh
  have hr : (mvOf hh c.main m).regs.length = 16 := by rw [mvOf, ints_len]; exact hw.regs
  subst hmh
  obtain ⟨⟨hop0, hop1⟩, ⟨hr0, hr1⟩, ⟨ha0, ha1⟩, ⟨hb0, hb1⟩⟩ := hi.plainW
  have hrl := hw.regs
  have hat0 := hw.at0
  have hat1 := hw.at1
  have hll := hw.may.wf.l2
  obtain ⟨bi, oi, ui, rfl, hui, hrowi, rfl, hopr, hirr, hira, hirb, hirn⟩ := hS3 _ i hi.at_
  refine SpecE.intro Tryd.func38 rfl rfl fun Γ => ?_
  show WC _ _ _ _ [] [(0, _)] _ _ _
  refine WC.regroup [mcObj bm Em (mvOf ⟨.slice A1 c.shapes.length q1, .slice A2 c.fns.length q2, .slice (some ⟨bi, oi, none⟩) c.list.length q3, bh, Aw, kw, Ac, kc, Ai, ki, Ap, kp⟩ c.main m), Cw, hpObj bh Eh m.heap, Cc, Cp] (by simp) ?_
  refine WC.seq ?_
  refine WC.region_staged (g := 12) (e := 11) [0, 1, 2, 3, 4] tMixed_q rfl rfl (fun hI0 => ?_)
  refine WS.float (k := 0) rfl (by kernel_rfl) (by kernel_rfl) (by kernel_rfl) rfl calm_no ?_
  refine WL.move rfl rfl ?_
  refine WL.nil ?_
  refine WS.onwardF ?_
  refine WS.float (k := 1) rfl (by kernel_rfl) (by kernel_rfl) (by kernel_rfl) rfl calm_no ?_
  refine WL.nilCheck rfl rfl ?_
  refine WL.nil ?_
  refine WS.onwardF ?_
  refine WS.float (k := 2) rfl (by kernel_rfl) (by kernel_rfl) (by kernel_rfl) rfl calm_no ?_
  refine WL.fieldAddr rfl tF69_0_q rfl ?_
  refine WL.nil ?_
  refine WS.onwardF ?_
  refine WS.float (k := 3) rfl (by kernel_rfl) (by kernel_rfl) (by kernel_rfl) rfl calm_no ?_
  refine WL.fieldAddr rfl tF26_2_q rfl ?_
  refine WL.nil ?_
  refine WS.onwardF ?_
  refine WS.float (k := 4) rfl (by kernel_rfl) (by kernel_rfl) (by kernel_rfl) rfl calm_no ?_
  refine WL.load_own 0 rfl rfl tA24_q mc2 rfl ?_
  refine WL.nil ?_
  refine WS.onwardF ?_
  refine WS.float (k := 5) rfl (by kernel_rfl) (by kernel_rfl) (by kernel_rfl) rfl calm_no ?_
  refine WL.move rfl rfl ?_
  refine WL.nil ?_
  refine WS.onwardF ?_
  refine WS.float (k := 6) rfl (by kernel_rfl) (by kernel_rfl) (by kernel_rfl) rfl calm_no ?_
  refine WL.nilCheck rfl rfl ?_
  refine WL.nil ?_
  refine WS.onwardF ?_
  refine WS.float (k := 7) rfl (by kernel_rfl) (by kernel_rfl) (by kernel_rfl) rfl calm_no ?_
  refine WL.fieldAddr rfl tF69_4_q rfl ?_
  refine WL.nil ?_
  refine WS.onwardF ?_
  refine WS.float (k := 8) rfl (by kernel_rfl) (by kernel_rfl) (by kernel_rfl) rfl calm_no ?_
  refine WL.load_own 0 rfl rfl tA3_q (mc22 hr) rfl ?_
  refine WL.nil ?_
  refine WS.onwardF ?_
  refine WS.float (k := 9) rfl (by kernel_rfl) (by kernel_rfl) (by kernel_rfl) rfl calm_no ?_
  refine WL.indexAddr rfl rfl tE24_q tS75_q rfl (by first | omega) ?_
  refine WL.nil ?_
  refine WS.onwardF ?_
  refine WS.float (k := 10) rfl (by kernel_rfl) (by kernel_rfl) (by kernel_rfl) rfl calm_no ?_
  refine WL.load_imm_agg rfl tA75_q tS75_q rfl (by first | exact hrowi | exact hrowb) (by first | rfl | assumption) ?_
  refine WL.nil ?_
  refine WS.onwardF ?_
  refine WS.touch (k := 11) rfl (by kernel_rfl) rfl ?_
  refine WL.alloc tZ75_q rfl rfl (fun b1 => ?_)
  refine WL.nil ?_
  refine WS.next (e' := 12) rfl (.inr (pickW (ks := [1, 2, 3, 4, 5]) rfl rfl (Mem.le_refl _) hI0)) ?_
  refine WS.touch (k := 12) rfl (by kernel_rfl) rfl ?_
  refine WL.store 0 rfl rfl rfl rfl tS75_q rfl rfl rfl rfl rfl ?_
  refine WL.nil ?_
  refine WS.next (e' := 13) rfl (.inl rfl) ?_
  refine WS.doneC (by kernel_rfl) ?_
  refine WE.then_normal ?_
  refine WC.seq ?_
  refine WC.region_draw tMixed_q (by kernel_rfl) ?_
  refine WL.move rfl rfl ?_
  refine WL.fieldAddr rfl tF75_2_q rfl ?_
  refine WL.load_own 0 rfl rfl tA3_q rfl rfl ?_
  refine WL.nilCheck rfl rfl ?_
  refine WL.fieldAddr rfl tF69_3_q rfl ?_
  refine WL.indexAddr_arr rfl rfl tAr66_q tS2_q rfl (by first | omega) ?_
  refine WL.load_own 1 rfl rfl tA2_q (mc_regG hrl i.a ⟨ha0, ha1⟩) rfl ?_
  refine WL.move rfl rfl ?_
  refine WL.fieldAddr rfl tF75_3_q rfl ?_
  refine WL.load_own 0 rfl rfl tA3_q rfl rfl ?_
  refine WL.nilCheck rfl rfl ?_
  refine WL.fieldAddr rfl tF69_3_q rfl ?_
  refine WL.indexAddr_arr rfl rfl tAr66_q tS2_q rfl (by first | omega) ?_
  refine WL.load_own 1 rfl rfl tA2_q (mc_regG hrl i.b ⟨hb0, hb1⟩) rfl ?_
  refine WL.assign rfl rfl ?_
  refine WL.assign rfl rfl ?_
  refine WL.nil ?_
  refine WE.then_normal ?_
  refine WC.seq ?_
  refine WC.region_draw tMixed_q (by kernel_rfl) ?_
  refine WL.move rfl rfl ?_
  refine WL.fieldAddr rfl tF75_1_q rfl ?_
  refine WL.load_own 0 rfl rfl tA3_q rfl rfl ?_
  refine WL.nilCheck rfl rfl ?_
  refine WL.fieldAddr rfl tF69_3_q rfl ?_
  refine WL.indexAddr_arr rfl rfl tAr66_q tS2_q rfl (by first | omega) ?_
  refine WL.assign rfl rfl ?_
  refine WL.nil ?_
  refine WE.then_normal ?_
  refine WC.seq ?_
  refine WC.region ?_
  refine WL.move rfl rfl ?_
  refine WL.nilCheck rfl rfl ?_
  refine WL.fieldAddr rfl tF69_4_q rfl ?_
  refine WL.load_own 1 rfl rfl tA3_q (mc22 hr) rfl ?_
  first | refine WL.add rfl rfl (by omega) rfl ?_ | refine WL.arith rfl rfl rfl rfl ?_
  refine WL.assign rfl rfl ?_
  refine WL.nil ?_
  refine WE.then_normal ?_
  refine WC.seq ?_
  refine WC.seq ?_
  refine WC.region ?_
  refine WL.fieldAddr rfl tF75_0_q rfl ?_
  refine WL.load_own 0 rfl rfl tA73_q rfl rfl ?_
  refine WL.nil ?_
  refine WE.then_normal ?_
  refine WC.block ?_
  refine WC.seq ?_
  refine WC.region ?_
  refine WL.arith rfl rfl rfl rfl ?_
  refine WL.assign rfl rfl ?_
  refine WL.nil ?_
  refine WE.then_normal ?_
  refine WC.condT rfl (fun h2 => ?_) (fun h2 => ?_)
  · try simp at h2
    try (exfalso; omega)
    all_goals (
      refine WC.region ?_
      refine WL.move rfl rfl ?_
      refine WL.fieldAddr rfl tF75_4_q rfl ?_
      refine WL.load_own 0 rfl rfl tA2_q rfl rfl ?_
      refine WL.nilCheck rfl rfl ?_
      refine WL.store_reg 1 (r := i.r) (rs := m.regs) rfl rfl rfl tS2_q rfl hrl ⟨hr0, hr1⟩ rfl ?_
      refine WL.nil ?_
      refine WE.block_normal ?_
      refine WE.then_normal ?_
      refine WC.region ?_
      refine WL.move rfl rfl ?_
      refine WL.move rfl rfl ?_
      refine WL.nilCheck rfl rfl ?_
      refine WL.fieldAddr rfl tF69_4_q rfl ?_
      refine WL.store_mc 1 rfl rfl rfl rfl tS3_q rfl (by show (ints _).length = 16; rw [ints_len]; first | exact hrl | exact hrl2 | (rw [List.length_set]; exact hrl)) rfl (mcs22 (by show (ints _).length = 16; rw [ints_len]; first | exact hrl | exact hrl2 | (rw [List.length_set]; exact hrl))) rfl ?_
      refine WL.nil ?_
      refine WE.pick [1, 2, 3, 4, 5] rfl rfl ?_
      refine WE.perm (fun w hs => hs.join5) ?_
      refine WE.endE rfl .nil rfl ?_
      exact ⟨_, (doM_1 (by assumption)), rfl, ⟨_, _, _, bh, Aw, kw, Ac, kc, Ai, ki, Ap, kp⟩, Cw, Cc, Cp, ⟨hcode0, hW, hC, hP, hIn, hInN, hInL⟩, rfl⟩
    )
  · try simp at h2
    try (exfalso; omega)
    all_goals (
      refine WC.seq ?_
      refine WC.region ?_
      refine WL.arith rfl rfl rfl rfl ?_
      refine WL.assign rfl rfl ?_
      refine WL.nil ?_
      refine WE.then_normal ?_
      refine WC.condT rfl (fun h3 => ?_) (fun h3 => ?_)
      · try simp at h3
        try (exfalso; omega)
        all_goals (
          refine WC.region_tail 9 tMixed_q (by kernel_rfl) rfl rfl ?_
          have hn2 := withinF hw hi (by assumption)
          have hf0 := hw.frame0
          have hf1 := hw.frame_hi
          refine WL.move rfl rfl ?_
          refine WL.move rfl rfl ?_
          refine WL.nilCheck rfl rfl ?_
          refine WL.fieldAddr rfl tF69_6_q rfl ?_
          refine WL.load_own 1 rfl rfl tA3_q (mc24 hr) rfl ?_
          refine WL.fieldAddr rfl tF75_4_q rfl ?_
          refine WL.load_own 0 rfl rfl tA2_q rfl rfl ?_
          first | refine WL.add rfl rfl (by omega) rfl ?_ | refine WL.arith rfl rfl rfl rfl ?_
          refine WL.nilCheck rfl rfl ?_
          refine WL.nil ?_
          refine WE.tail ?_
          refine WL.store_reg 1 (r := i.r) (rs := m.regs) rfl rfl rfl tS2_q rfl hrl ⟨hr0, hr1⟩ rfl ?_
          refine WL.nil ?_
          refine WE.block_normal ?_
          refine WE.then_normal ?_
          refine WC.region ?_
          refine WL.move rfl rfl ?_
          refine WL.move rfl rfl ?_
          refine WL.nilCheck rfl rfl ?_
          refine WL.fieldAddr rfl tF69_4_q rfl ?_
          refine WL.store_mc 1 rfl rfl rfl rfl tS3_q rfl (by show (ints _).length = 16; rw [ints_len]; first | exact hrl | exact hrl2 | (rw [List.length_set]; exact hrl)) rfl (mcs22 (by show (ints _).length = 16; rw [ints_len]; first | exact hrl | exact hrl2 | (rw [List.length_set]; exact hrl))) rfl ?_
          refine WL.nil ?_
          refine WE.pick [1, 2, 3, 4, 5] rfl rfl ?_
          refine WE.perm (fun w hs => hs.join5) ?_
          refine WE.endE rfl .nil rfl ?_
          exact ⟨_, (doM_2 (by assumption)), rfl, ⟨_, _, _, bh, Aw, kw, Ac, kc, Ai, ki, Ap, kp⟩, Cw, Cc, Cp, ⟨hcode0, hW, hC, hP, hIn, hInN, hInL⟩, rfl⟩
        )
      · try simp at h3
        try (exfalso; omega)
        all_goals (
          refine WC.seq ?_
          refine WC.region ?_
          refine WL.arith rfl rfl rfl rfl ?_
          refine WL.assign rfl rfl ?_
          refine WL.nil ?_
          refine WE.then_normal ?_
          refine WC.condT rfl (fun h4 => ?_) (fun h4 => ?_)
          · try simp at h4
            try (exfalso; omega)
            all_goals (
              refine WC.region ?_
              refine WL.move rfl rfl ?_
              refine WL.move rfl rfl ?_
              refine WL.fieldAddr rfl tF75_4_q rfl ?_
              refine WL.load_own 0 rfl rfl tA2_q rfl rfl ?_
              first | refine WL.add rfl rfl (by omega) rfl ?_ | refine WL.arith rfl rfl rfl rfl ?_
              refine WL.nilCheck rfl rfl ?_
              refine WL.store_reg 1 (r := i.r) (rs := m.regs) rfl rfl rfl tS2_q rfl hrl ⟨hr0, hr1⟩ rfl ?_
              refine WL.nil ?_
              refine WE.block_normal ?_
              refine WE.then_normal ?_
              refine WC.region ?_
              refine WL.move rfl rfl ?_
              refine WL.move rfl rfl ?_
              refine WL.nilCheck rfl rfl ?_
              refine WL.fieldAddr rfl tF69_4_q rfl ?_
              refine WL.store_mc 1 rfl rfl rfl rfl tS3_q rfl (by show (ints _).length = 16; rw [ints_len]; first | exact hrl | exact hrl2 | (rw [List.length_set]; exact hrl)) rfl (mcs22 (by show (ints _).length = 16; rw [ints_len]; first | exact hrl | exact hrl2 | (rw [List.length_set]; exact hrl))) rfl ?_
              refine WL.nil ?_
              refine WE.pick [1, 2, 3, 4, 5] rfl rfl ?_
              refine WE.perm (fun w hs => hs.join5) ?_
              refine WE.endE rfl .nil rfl ?_
              exact ⟨_, (doM_3 (by assumption)), rfl, ⟨_, _, _, bh, Aw, kw, Ac, kc, Ai, ki, Ap, kp⟩, Cw, Cc, Cp, ⟨hcode0, hW, hC, hP, hIn, hInN, hInL⟩, rfl⟩
            )
          · try simp at h4
            try (exfalso; omega)
            all_goals (
              refine WC.seq ?_
              refine WC.region ?_
              refine WL.arith rfl rfl rfl rfl ?_
              refine WL.assign rfl rfl ?_
              refine WL.nil ?_
              refine WE.then_normal ?_
              refine WC.condT rfl (fun h5 => ?_) (fun h5 => ?_)
              · try simp at h5
                try (exfalso; omega)
                all_goals (
                  refine WC.region ?_
                  refine WL.pick [1, 2, 0, 3, 4, 5] rfl rfl ?_
                  refine WL.move rfl rfl ?_
                  refine WL.move rfl rfl ?_
                  refine WL.move rfl rfl ?_
                  refine WL.fieldAddr rfl tF75_4_q rfl ?_
                  refine WL.load_own 2 rfl rfl tA2_q rfl rfl ?_
                  first | refine WL.add rfl rfl (by omega) rfl ?_ | refine WL.arith rfl rfl rfl rfl ?_
                  refine WL.regroup [mcObj bm Em (mvOf ⟨.slice A1 c.shapes.length q1, .slice A2 c.fns.length q2, .slice (some ⟨bi, oi, none⟩) c.list.length q3, bh, Aw, kw, Ac, kc, Ai, ki, Ap, kp⟩ c.main m) ++ Cw, [(b1, _)], hpObj bh Eh m.heap, Cc, Cp] (by simp [mcObj]; rfl) ?_
                  refine WL.callQ 0 okF31_q rfl rfl rfl (word27_spec _ m.words Aw kw Cw bm Em (w64 (regG m i.a + i.n)) I rfl hW) ?_
                  refine WL.regroup [mcObj bm Em (mvOf ⟨.slice A1 c.shapes.length q1, .slice A2 c.fns.length q2, .slice (some ⟨bi, oi, none⟩) c.list.length q3, bh, Aw, kw, Ac, kc, Ai, ki, Ap, kp⟩ c.main m), Cw, [(b1, _)], hpObj bh Eh m.heap, Cc, Cp] (by simp [mcObj]; rfl) ?_
                  refine WL.nilCheck rfl rfl ?_
                  refine WL.store_reg 0 (r := i.r) (rs := m.regs) rfl rfl rfl tS2_q rfl hrl ⟨hr0, hr1⟩ rfl ?_
                  refine WL.nil ?_
                  refine WE.block_normal ?_
                  refine WE.then_normal ?_
                  refine WC.region ?_
                  refine WL.move rfl rfl ?_
                  refine WL.move rfl rfl ?_
                  refine WL.nilCheck rfl rfl ?_
                  refine WL.fieldAddr rfl tF69_4_q rfl ?_
                  refine WL.store_mc 0 rfl rfl rfl rfl tS3_q rfl (by show (ints _).length = 16; rw [ints_len]; first | exact hrl | exact hrl2 | (rw [List.length_set]; exact hrl)) rfl (mcs22 (by show (ints _).length = 16; rw [ints_len]; first | exact hrl | exact hrl2 | (rw [List.length_set]; exact hrl))) rfl ?_
                  refine WL.nil ?_
                  refine WE.pick [0, 1, 3, 4, 5] rfl rfl ?_
                  refine WE.perm (fun w hs => hs.join5) ?_
                  refine WE.endE rfl .nil rfl ?_
                  exact ⟨_, (doM_4 (by assumption)), rfl, ⟨_, _, _, bh, Aw, kw, Ac, kc, Ai, ki, Ap, kp⟩, Cw, Cc, Cp, ⟨hcode0, hW, hC, hP, hIn, hInN, hInL⟩, rfl⟩
                )
              · try simp at h5
                try (exfalso; omega)
                all_goals (
                  refine WC.seq ?_
                  refine WC.region ?_
                  refine WL.arith rfl rfl rfl rfl ?_
                  refine WL.assign rfl rfl ?_
                  refine WL.nil ?_
                  refine WE.then_normal ?_
                  refine WC.condT rfl (fun h6 => ?_) (fun h6 => ?_)
                  · try simp at h6
                    try (exfalso; omega)
                    all_goals (
                      refine WC.region_tail 8 tMixed_q (by kernel_rfl) rfl rfl ?_
                      refine WL.move rfl rfl ?_
                      refine WL.move rfl rfl ?_
                      refine WL.fieldAddr rfl tF75_4_q rfl ?_
                      refine WL.load_own 0 rfl rfl tA2_q rfl rfl ?_
                      first | refine WL.add rfl rfl (by omega) rfl ?_ | refine WL.arith rfl rfl rfl rfl ?_
                      refine WL.move rfl rfl ?_
                      refine WL.nilCheck rfl rfl ?_
                      refine WL.load_own 1 rfl rfl tA2_q (mc_regG hrl i.r ⟨hr0, hr1⟩) rfl ?_
                      refine WL.nil ?_
                      refine WE.tail ?_
                      refine WL.pick [1, 2, 0, 3, 4, 5] rfl rfl ?_
                      refine WL.perm (fun _ hs => hs.join) ?_
                      refine WL.callS (dd := some 95) okF59_q rfl rfl (set27_spec (mvOf ⟨.slice A1 c.shapes.length q1, .slice A2 c.fns.length q2, .slice (some ⟨bi, oi, none⟩) c.list.length q3, bh, Aw, kw, Ac, kc, Ai, ki, Ap, kp⟩ c.main m) (m.words) (Aw) (kw) (Cw) bm Em (w64 (regG m i.a + i.n)) (regG m i.r) _ (by show (ints _).length = 16; rw [ints_len]; first | exact hrl | exact hrl2 | (rw [List.length_set]; exact hrl)) rfl hW hw.wlen) (fun v1 I1 C1 _ hv => ?_)
                      obtain ⟨hI1, A1', k1', Cw1', rfl, hS1⟩ := hv
                      have hI1 := hI1.symm
                      subst hI1
                      refine WL.perm (fun _ hs => hs.part) ?_
                      refine WL.nil ?_
                      refine WE.block_normal ?_
                      refine WE.then_normal ?_
                      refine WC.region ?_
                      refine WL.move rfl rfl ?_
                      refine WL.move rfl rfl ?_
                      refine WL.nilCheck rfl rfl ?_
                      refine WL.fieldAddr rfl tF69_4_q rfl ?_
                      refine WL.store_mc 0 rfl rfl rfl rfl tS3_q rfl (by show (ints _).length = 16; rw [ints_len]; first | exact hrl | exact hrl2 | (rw [List.length_set]; exact hrl)) rfl (mcs22 (by show (ints _).length = 16; rw [ints_len]; first | exact hrl | exact hrl2 | (rw [List.length_set]; exact hrl))) rfl ?_
                      refine WL.nil ?_
                      refine WE.pick [0, 1, 3, 4, 5] rfl rfl ?_
                      refine WE.perm (fun w hs => hs.join5) ?_
                      refine WE.endE rfl .nil rfl ?_
                      exact ⟨_, (doM_5 (by assumption)), rfl, ⟨_, _, _, bh, A1', k1', Ac, kc, Ai, ki, Ap, kp⟩, Cw1', Cc, Cp, ⟨hcode0, hS1, hC, hP, hIn, hInN, hInL⟩, rfl⟩
                    )
                  · try simp at h6
                    try (exfalso; omega)
                    all_goals (
                      refine WC.seq ?_
                      refine WC.region ?_
                      refine WL.arith rfl rfl rfl rfl ?_
                      refine WL.assign rfl rfl ?_
                      refine WL.nil ?_
                      refine WE.then_normal ?_
                      refine WC.condT rfl (fun h7 => ?_) (fun h7 => ?_)
                      · try simp at h7
                        try (exfalso; omega)
                        all_goals (
                          refine WC.seq ?_
                          refine WC.region ?_
                          have hn6 := withinW hi (by assumption)
                          refine WL.fieldAddr rfl tF75_4_q rfl ?_
                          refine WL.load_own 0 rfl rfl tA2_q rfl rfl ?_
                          refine WL.move rfl rfl ?_
                          refine WL.nil ?_
                          refine WE.then_normal ?_
                          refine WC.block ?_
                          refine WC.pick [1, 2, 3, 4, 5, 0] rfl rfl ?_
                          refine WC.loopG (X := Nat × List Int × Option Addr × Nat × Chunk) [0, 3, 5, 6, 99, 301, 302, 303, 304] rfl (fun x => [(100, .int .i64 (x.1 : Int))]) (fun x => I) (fun x => [mcObj bm Em (mvOf ⟨.slice A1 c.shapes.length q1, .slice A2 c.fns.length q2, .slice (some ⟨bi, oi, none⟩) c.list.length q3, bh, x.2.2.1, x.2.2.2.1, Ac, kc, Ai, ki, Ap, kp⟩ c.main { m with words := x.2.1 }), x.2.2.2.2, hpObj bh Eh m.heap, Cc, Cp, [(b1, .cells [.int .u8 i.op, .int .i64 i.r, .int .i64 i.a, .int .i64 i.b, .int .i64 i.n].toArray 75 (0, 0))]]) (fun x => (x.1 : Int) ≤ i.n ∧ copyW x.2.1 (regG m i.r) (regG m i.a) (i.n.toNat - x.1) (x.1 : Int) = copyW m.words (regG m i.r) (regG m i.a) i.n.toNat 0 ∧ SlO 1 (ints x.2.1) x.2.2.1 x.2.2.2.1 x.2.2.2.2 ∧ x.2.1.length ≤ 524661) (fun x => i.n.toNat - x.1) (0, m.words, Aw, kw, Cw) (⟨hn6.1, by simp, hW, hw.wlen⟩) ⟨rfl, trivial⟩ (rfl) (rfl) (fun x hinv => ?_)
                          obtain ⟨q, ws, A, kx, Cx⟩ := x
                          obtain ⟨hq, hcl, hS, hwl⟩ := hinv
                          simp only at hq hcl hS hwl
                          dsimp only
                          refine WC.seq ?_
                          refine WC.region ?_
                          refine WL.arith rfl rfl rfl rfl ?_
                          refine WL.nil ?_
                          refine WE.then_normal ?_
                          refine WC.seq ?_
                          refine WC.condT rfl (fun h8 => ?_) (fun h8 => ?_)
                          · try simp at h8
                            try (exfalso; omega)
                            all_goals (
                              refine WC.skip ?_
                              refine WE.then_normal ?_
                              refine WC.seq ?_
                              refine WC.block ?_
                              refine WC.seq ?_
                              refine WC.region ?_
                              refine WL.move rfl rfl ?_
                              refine WL.assign rfl rfl ?_
                              refine WL.nil ?_
                              refine WE.then_normal ?_
                              refine WC.region_tail 11 tMixed_q (by kernel_rfl) rfl rfl ?_
                              refine WL.move rfl rfl ?_
                              refine WL.move rfl rfl ?_
                              refine WL.nilCheck rfl rfl ?_
                              refine WL.load_own 0 rfl rfl tA2_q (mc_regG (h := ⟨.slice A1 c.shapes.length q1, .slice A2 c.fns.length q2, .slice (some ⟨bi, oi, none⟩) c.list.length q3, bh, A, kx, Ac, kc, Ai, ki, Ap, kp⟩) (main := c.main) (m := { m with words := ws }) hrl i.r ⟨hr0, hr1⟩) rfl ?_
                              refine WL.move rfl rfl ?_
                              first | refine WL.add rfl rfl (by omega) rfl ?_ | refine WL.arith rfl rfl rfl rfl ?_
                              refine WL.move rfl rfl ?_
                              refine WL.move rfl rfl ?_
                              refine WL.move rfl rfl ?_
                              first | refine WL.add rfl rfl (by omega) rfl ?_ | refine WL.arith rfl rfl rfl rfl ?_
                              refine WL.regroup [mcObj bm Em (mvOf ⟨.slice A1 c.shapes.length q1, .slice A2 c.fns.length q2, .slice (some ⟨bi, oi, none⟩) c.list.length q3, bh, A, kx, Ac, kc, Ai, ki, Ap, kp⟩ c.main { m with words := ws }) ++ Cx, hpObj bh Eh m.heap, Cc, Cp, [(b1, _)]] (by simp [mcObj]; rfl) ?_
                              refine WL.callQ 0 okF31_q rfl rfl rfl (word27_spec _ ws A kx Cx bm Em (w64 (regG m i.a + (q : Int))) I rfl hS) ?_
                              refine WL.regroup [mcObj bm Em (mvOf ⟨.slice A1 c.shapes.length q1, .slice A2 c.fns.length q2, .slice (some ⟨bi, oi, none⟩) c.list.length q3, bh, A, kx, Ac, kc, Ai, ki, Ap, kp⟩ c.main { m with words := ws }), Cx, hpObj bh Eh m.heap, Cc, Cp, [(b1, _)]] (by simp [mcObj]; rfl) ?_
                              refine WL.nil ?_
                              refine WE.tail ?_
                              refine WL.perm (fun _ hs => hs.join) ?_
                              refine WL.callS (dd := some 114) okF59_q rfl rfl (set27_spec (mvOf ⟨.slice A1 c.shapes.length q1, .slice A2 c.fns.length q2, .slice (some ⟨bi, oi, none⟩) c.list.length q3, bh, A, kx, Ac, kc, Ai, ki, Ap, kp⟩ c.main { m with words := ws }) (ws) (A) (kx) (Cx) bm Em (w64 (regG m i.r + (q : Int))) (wordM ws (w64 (regG m i.a + (q : Int)))) _ (by show (ints _).length = 16; rw [ints_len]; first | exact hrl | exact hrl2 | (rw [List.length_set]; exact hrl)) rfl hS hwl) (fun v1 I1 C1 _ hv => ?_)
                              obtain ⟨hI1, A1', k1', Cw1', rfl, hS1⟩ := hv
                              have hI1 := hI1.symm
                              subst hI1
                              refine WL.perm (fun _ hs => hs.part) ?_
                              refine WL.nil ?_
                              refine WE.block_normal ?_
                              refine WE.then_normal ?_
                              refine WC.region ?_
                              first | refine WL.add rfl rfl (by omega) rfl ?_ | refine WL.arith rfl rfl rfl rfl ?_
                              refine WL.move rfl rfl ?_
                              refine WL.nil ?_
                              refine WE.backG (q + 1, setM ws (w64 (regG m i.r + (q : Int))) (wordM ws (w64 (regG m i.a + (q : Int)))), A1', k1', Cw1') (⟨by simp only; omega, by rw [← hcl, show i.n.toNat - q = (i.n.toNat - (q + 1)) + 1 by omega, copyW]; rfl, hS1, setM_le hwl⟩) (by simp only; omega) ⟨rfl, trivial⟩ (by repeat (first | exact trivial | refine ⟨rfl, ?_⟩)) (rfl) (rfl)
                            )
                          · try simp at h8
                            try (exfalso; omega)
                            all_goals (
                              refine WC.exit ?_
                              refine WE.then_exit ?_
                              refine WE.then_exit ?_
                              refine WE.block_exit ?_
                              refine WE.block_normal ?_
                              refine WE.then_normal ?_
                              refine WC.region ?_
                              refine WL.move rfl rfl ?_
                              refine WL.move rfl rfl ?_
                              refine WL.nilCheck rfl rfl ?_
                              refine WL.fieldAddr rfl tF69_4_q rfl ?_
                              refine WL.store_mc 0 rfl rfl rfl rfl tS3_q rfl (by show (ints _).length = 16; rw [ints_len]; first | exact hrl | exact hrl2 | (rw [List.length_set]; exact hrl)) rfl (mcs22 (by show (ints _).length = 16; rw [ints_len]; first | exact hrl | exact hrl2 | (rw [List.length_set]; exact hrl))) rfl ?_
                              refine WL.nil ?_
                              have hqe : i.n.toNat - q = 0 := by omega
                              rw [hqe, copyW] at hcl
                              subst hcl
                              refine WE.pick [0, 1, 2, 3, 4] rfl rfl ?_
                              refine WE.perm (fun w hs => hs.join5) ?_
                              refine WE.endE rfl .nil rfl ?_
                              exact ⟨_, (doM_6 (by assumption)), rfl, ⟨_, _, _, bh, A, kx, Ac, kc, Ai, ki, Ap, kp⟩, Cx, Cc, Cp, ⟨hcode0, hS, hC, hP, hIn, hInN, hInL⟩, rfl⟩
                            )
                        )
                      · try simp at h7
                        try (exfalso; omega)
                        all_goals (
                          refine WC.seq ?_
                          refine WC.region ?_
                          refine WL.arith rfl rfl rfl rfl ?_
                          refine WL.assign rfl rfl ?_
                          refine WL.nil ?_
                          refine WE.then_normal ?_
                          refine WC.condT rfl (fun h9 => ?_) (fun h9 => ?_)
                          · try simp at h9
                            try (exfalso; omega)
                            all_goals (
                              refine WC.seq ?_
                              refine WC.region_draw tMixed_q (by kernel_rfl) ?_
                              have hn7 := withinS hi (.inl (by assumption))
                              obtain ⟨sh, hsh⟩ : ∃ y, c.shapes[i.n.toNat]? = some y := ⟨_, List.getElem?_eq_getElem (by omega)⟩
                              obtain ⟨bsh, osh, us, rfl, hus, hrows, hshr⟩ := hS1 _ sh hsh
                              obtain ⟨Ab, kb, rfl, hbl, hbk, hSb, hsw⟩ := hshr
                              refine WL.move rfl rfl ?_
                              refine WL.nilCheck rfl rfl ?_
                              refine WL.fieldAddr rfl tF69_0_q rfl ?_
                              refine WL.fieldAddr rfl tF26_0_q rfl ?_
                              refine WL.load_own 1 rfl rfl tA22_q mc0 rfl ?_
                              refine WL.fieldAddr rfl tF75_4_q rfl ?_
                              refine WL.load_own 0 rfl rfl tA2_q rfl rfl ?_
                              refine WL.indexAddr rfl rfl tE22_q tS52_q rfl (by first | omega) ?_
                              refine WL.fieldAddr rfl tF52_1_q rfl ?_
                              refine WL.load_imm rfl tA50_q rfl (by first | exact hrows 1 _ rfl | exact hrx0) ?_
                              refine WL.len_slice rfl tE50_q rfl ?_
                              refine WL.move rfl rfl ?_
                              refine WL.nil ?_
                              refine WE.then_normal ?_
                              refine WC.block ?_
                              refine WC.pick [1, 2, 3, 4, 5, 0] rfl rfl ?_
                              refine WC.loopG (X := Nat × List Int × Option Addr × Nat × Chunk) [0, 3, 6, 127, 128, 301, 302, 303, 304] rfl (fun x => [(129, .int .i64 (x.1 : Int))]) (fun x => I) (fun x => [mcObj bm Em (mvOf ⟨.slice (some ⟨bsh, osh, none⟩) c.shapes.length q1, .slice A2 c.fns.length q2, .slice (some ⟨bi, oi, none⟩) c.list.length q3, bh, x.2.2.1, x.2.2.2.1, Ac, kc, Ai, ki, Ap, kp⟩ c.main { m with words := x.2.1 }), x.2.2.2.2, hpObj bh Eh m.heap, Cc, Cp, [(b1, .cells [.int .u8 i.op, .int .i64 i.r, .int .i64 i.a, .int .i64 i.b, .int .i64 i.n].toArray 75 (0, 0))]]) (fun x => x.1 ≤ sh.boxes.length ∧ clearB x.2.1 (regG m i.a) (sh.boxes.drop x.1) = clearB m.words (regG m i.a) sh.boxes ∧ SlO 1 (ints x.2.1) x.2.2.1 x.2.2.2.1 x.2.2.2.2 ∧ x.2.1.length ≤ 524661) (fun x => sh.boxes.length - x.1) (0, m.words, Aw, kw, Cw) (⟨Nat.zero_le _, rfl, hW, hw.wlen⟩) ⟨rfl, trivial⟩ (rfl) (rfl) (fun x hinv => ?_)
                              obtain ⟨q, ws, A, kx, Cx⟩ := x
                              obtain ⟨hq, hcl, hS, hwl⟩ := hinv
                              simp only at hq hcl hS hwl
                              dsimp only
                              refine WC.seq ?_
                              refine WC.region ?_
                              refine WL.arith rfl rfl rfl rfl ?_
                              refine WL.nil ?_
                              refine WE.then_normal ?_
                              refine WC.seq ?_
                              refine WC.condT rfl (fun h10 => ?_) (fun h10 => ?_)
                              · try simp at h10
                                try (exfalso; omega)
                                all_goals (
                                  refine WC.skip ?_
                                  refine WE.then_normal ?_
                                  refine WC.seq ?_
                                  refine WC.block ?_
                                  refine WC.seq ?_
                                  refine WC.region ?_
                                  obtain ⟨b0, hb0'⟩ : ∃ y, sh.boxes[q]? = some y := ⟨_, List.getElem?_eq_getElem (by omega)⟩
                                  obtain ⟨bb, ob, ub, rfl, hub, hrowb, rfl, hbr1, hbr2, hbr3⟩ := hSb q b0 hb0'
                                  refine WL.indexAddr rfl rfl tE50_q tS83_q rfl (by first | omega) ?_
                                  refine WL.load_imm_agg rfl tA83_q tS83_q rfl (by first | exact hrowi | exact hrowb) (by first | rfl | assumption) ?_
                                  refine WL.alloc tZ83_q rfl rfl (fun b11 => ?_)
                                  refine WL.store 0 rfl rfl rfl rfl tS83_q rfl rfl rfl rfl rfl ?_
                                  refine WL.nil ?_
                                  refine WE.then_normal ?_
                                  refine WC.region ?_
                                  refine WL.move rfl rfl ?_
                                  refine WL.move rfl rfl ?_
                                  refine WL.fieldAddr rfl tF83_0_q rfl ?_
                                  refine WL.load_own 0 rfl rfl tA3_q rfl rfl ?_
                                  first | refine WL.add rfl rfl (by omega) rfl ?_ | refine WL.arith rfl rfl rfl rfl ?_
                                  refine WL.pick [1, 2, 0, 3, 4, 5, 6] rfl rfl ?_
                                  refine WL.perm (fun _ hs => hs.join) ?_
                                  refine WL.callS (dd := some 138) okF59_q rfl rfl (set27_spec (mvOf ⟨.slice (some ⟨bsh, osh, none⟩) c.shapes.length q1, .slice A2 c.fns.length q2, .slice (some ⟨bi, oi, none⟩) c.list.length q3, bh, A, kx, Ac, kc, Ai, ki, Ap, kp⟩ c.main { m with words := ws }) (ws) (A) (kx) (Cx) bm Em (w64 (regG m i.a + b0.at_)) (0) _ (by show (ints _).length = 16; rw [ints_len]; first | exact hrl | exact hrl2 | (rw [List.length_set]; exact hrl)) rfl hS hwl) (fun v1 I1 C1 _ hv => ?_)
                                  obtain ⟨hI1, A1', k1', Cw1', rfl, hS1⟩ := hv
                                  have hI1 := hI1.symm
                                  subst hI1
                                  refine WL.perm (fun _ hs => hs.part) ?_
                                  refine WL.nil ?_
                                  refine WE.block_normal ?_
                                  refine WE.then_normal ?_
                                  refine WC.region ?_
                                  first | refine WL.add rfl rfl (by omega) rfl ?_ | refine WL.arith rfl rfl rfl rfl ?_
                                  refine WL.move rfl rfl ?_
                                  refine WL.nil ?_
                                  refine WE.pick [0, 1, 3, 4, 5, 6] rfl rfl ?_
                                  refine WE.backG (q + 1, setM ws (w64 (regG m i.a + b0.at_)) 0, A1', k1', Cw1') (⟨by simp only; omega, by rw [← hcl, drop_at hb0']; rfl, hS1, setM_le hwl⟩) (by simp only; omega) ⟨rfl, trivial⟩ (by repeat (first | exact trivial | refine ⟨rfl, ?_⟩)) (rfl) (rfl)
                                )
                              · try simp at h10
                                try (exfalso; omega)
                                all_goals (
                                  refine WC.exit ?_
                                  refine WE.then_exit ?_
                                  refine WE.then_exit ?_
                                  refine WE.block_exit ?_
                                  refine WE.block_normal ?_
                                  refine WE.then_normal ?_
                                  refine WC.region ?_
                                  refine WL.move rfl rfl ?_
                                  refine WL.move rfl rfl ?_
                                  refine WL.nilCheck rfl rfl ?_
                                  refine WL.fieldAddr rfl tF69_4_q rfl ?_
                                  refine WL.store_mc 0 rfl rfl rfl rfl tS3_q rfl (by show (ints _).length = 16; rw [ints_len]; first | exact hrl | exact hrl2 | (rw [List.length_set]; exact hrl)) rfl (mcs22 (by show (ints _).length = 16; rw [ints_len]; first | exact hrl | exact hrl2 | (rw [List.length_set]; exact hrl))) rfl ?_
                                  refine WL.nil ?_
                                  rw [List.drop_of_length_le (by omega), clearB] at hcl
                                  have hcl2 : clearB m.words (regG m i.a) (boxesOf c i.n) = ws := by rw [boxesOf_at hsh, hcl]
                                  have hd7 : doM c m i = .ok { m with words := ws, at_ := m.at_ + 1 } := by rw [doM_7 (by assumption), hcl2]
                                  refine WE.pick [0, 1, 2, 3, 4] rfl rfl ?_
                                  refine WE.perm (fun w hs => hs.join5) ?_
                                  refine WE.endE rfl .nil rfl ?_
                                  exact ⟨_, hd7, rfl, ⟨_, _, _, bh, A, kx, Ac, kc, Ai, ki, Ap, kp⟩, Cx, Cc, Cp, ⟨hcode0, hS, hC, hP, hIn, hInN, hInL⟩, rfl⟩
                                )
                            )
                          · try simp at h9
                            try (exfalso; omega)
                            all_goals (
                              refine WC.seq ?_
                              refine WC.region ?_
                              refine WL.arith rfl rfl rfl rfl ?_
                              refine WL.assign rfl rfl ?_
                              refine WL.nil ?_
                              refine WE.then_normal ?_
                              refine WC.condT rfl (fun h12 => ?_) (fun h12 => ?_)
                              · try simp at h12
                                try (exfalso; omega)
                                all_goals (
                                  refine WC.region ?_
                                  refine WL.move rfl rfl ?_
                                  refine WL.move rfl rfl ?_
                                  refine WL.move rfl rfl ?_
                                  refine WL.perm (fun _ hs => hs.nilTop) ?_
                                  refine WL.callE (dd := some 145) okF60_q rfl rfl (sum_spec (regG m i.a) (regG m i.b) false I (reg_rg hw _) (reg_rg hw _)) (fun v1 I1 C1 _ hv => ?_) (fun v1 I1 C1 _ hv => ?_)
                                  rotate_left
                                  · obtain ⟨⟨hv1, hv2, hv3⟩, hres⟩ := hv
                                    have hv2 := hv2.symm
                                    subst hv1; subst hv2; subst hv3
                                    refine WE.block_panic ?_
                                    refine WE.then_panic ?_
                                    refine WE.pick [2, 3, 4, 5, 6] rfl rfl ?_
                                    refine WE.perm (fun w hs => hs.join5) ?_
                                    refine WE.panicE ?_
                                    exact ⟨1, (doM_8 (by assumption)).trans (if_neg (by simpa [Rg] using hres)), rfl, rfl, ⟨_, _, _, bh, Aw, kw, Ac, kc, Ai, ki, Ap, kp⟩, Cw, Cc, Cp, ⟨hcode0, hW, hC, hP, hIn, hInN, hInL⟩, rfl⟩
                                  obtain ⟨⟨hv1, hv2, hv3⟩, hres⟩ := hv
                                  have hv2 := hv2.symm
                                  subst hv1; subst hv2; subst hv3
                                  refine WL.nilCheck rfl rfl ?_
                                  refine WL.store_reg 2 (r := i.r) (rs := m.regs) rfl rfl rfl tS2_q rfl hrl ⟨hr0, hr1⟩ rfl ?_
                                  refine WL.nil ?_
                                  refine WE.block_normal ?_
                                  refine WE.then_normal ?_
                                  refine WC.region ?_
                                  refine WL.move rfl rfl ?_
                                  refine WL.move rfl rfl ?_
                                  refine WL.nilCheck rfl rfl ?_
                                  refine WL.fieldAddr rfl tF69_4_q rfl ?_
                                  refine WL.store_mc 2 rfl rfl rfl rfl tS3_q rfl (by show (ints _).length = 16; rw [ints_len]; first | exact hrl | exact hrl2 | (rw [List.length_set]; exact hrl)) rfl (mcs22 (by show (ints _).length = 16; rw [ints_len]; first | exact hrl | exact hrl2 | (rw [List.length_set]; exact hrl))) rfl ?_
                                  refine WL.nil ?_
                                  refine WE.pick [2, 3, 4, 5, 6] rfl rfl ?_
                                  refine WE.perm (fun w hs => hs.join5) ?_
                                  refine WE.endE rfl .nil rfl ?_
                                  exact ⟨_, (doM_8 (by assumption)).trans (if_pos (by simpa [Rg] using hres)), rfl, ⟨_, _, _, bh, Aw, kw, Ac, kc, Ai, ki, Ap, kp⟩, Cw, Cc, Cp, ⟨hcode0, hW, hC, hP, hIn, hInN, hInL⟩, rfl⟩
                                )
                              · try simp at h12
                                try (exfalso; omega)
                                all_goals (
                                  refine WC.seq ?_
                                  refine WC.region ?_
                                  refine WL.arith rfl rfl rfl rfl ?_
                                  refine WL.assign rfl rfl ?_
                                  refine WL.nil ?_
                                  refine WE.then_normal ?_
                                  refine WC.condT rfl (fun h13 => ?_) (fun h13 => ?_)
                                  · try simp at h13
                                    try (exfalso; omega)
                                    all_goals (
                                      refine WC.region ?_
                                      refine WL.move rfl rfl ?_
                                      refine WL.move rfl rfl ?_
                                      refine WL.move rfl rfl ?_
                                      refine WL.perm (fun _ hs => hs.nilTop) ?_
                                      refine WL.callE (dd := some 152) okF60_q rfl rfl (sum_spec (regG m i.a) (regG m i.b) true I (reg_rg hw _) (reg_rg hw _)) (fun v1 I1 C1 _ hv => ?_) (fun v1 I1 C1 _ hv => ?_)
                                      rotate_left
                                      · obtain ⟨⟨hv1, hv2, hv3⟩, hres⟩ := hv
                                        have hv2 := hv2.symm
                                        subst hv1; subst hv2; subst hv3
                                        refine WE.block_panic ?_
                                        refine WE.then_panic ?_
                                        refine WE.pick [2, 3, 4, 5, 6] rfl rfl ?_
                                        refine WE.perm (fun w hs => hs.join5) ?_
                                        refine WE.panicE ?_
                                        exact ⟨1, (doM_9 (by assumption)).trans (if_neg (by simpa [Rg] using hres)), rfl, rfl, ⟨_, _, _, bh, Aw, kw, Ac, kc, Ai, ki, Ap, kp⟩, Cw, Cc, Cp, ⟨hcode0, hW, hC, hP, hIn, hInN, hInL⟩, rfl⟩
                                      obtain ⟨⟨hv1, hv2, hv3⟩, hres⟩ := hv
                                      have hv2 := hv2.symm
                                      subst hv1; subst hv2; subst hv3
                                      refine WL.nilCheck rfl rfl ?_
                                      refine WL.store_reg 2 (r := i.r) (rs := m.regs) rfl rfl rfl tS2_q rfl hrl ⟨hr0, hr1⟩ rfl ?_
                                      refine WL.nil ?_
                                      refine WE.block_normal ?_
                                      refine WE.then_normal ?_
                                      refine WC.region ?_
                                      refine WL.move rfl rfl ?_
                                      refine WL.move rfl rfl ?_
                                      refine WL.nilCheck rfl rfl ?_
                                      refine WL.fieldAddr rfl tF69_4_q rfl ?_
                                      refine WL.store_mc 2 rfl rfl rfl rfl tS3_q rfl (by show (ints _).length = 16; rw [ints_len]; first | exact hrl | exact hrl2 | (rw [List.length_set]; exact hrl)) rfl (mcs22 (by show (ints _).length = 16; rw [ints_len]; first | exact hrl | exact hrl2 | (rw [List.length_set]; exact hrl))) rfl ?_
                                      refine WL.nil ?_
                                      refine WE.pick [2, 3, 4, 5, 6] rfl rfl ?_
                                      refine WE.perm (fun w hs => hs.join5) ?_
                                      refine WE.endE rfl .nil rfl ?_
                                      exact ⟨_, (doM_9 (by assumption)).trans (if_pos (by simpa [Rg] using hres)), rfl, ⟨_, _, _, bh, Aw, kw, Ac, kc, Ai, ki, Ap, kp⟩, Cw, Cc, Cp, ⟨hcode0, hW, hC, hP, hIn, hInN, hInL⟩, rfl⟩
                                    )
                                  · try simp at h13
                                    try (exfalso; omega)
                                    all_goals (
                                      refine WC.seq ?_
                                      refine WC.region ?_
                                      refine WL.arith rfl rfl rfl rfl ?_
                                      refine WL.assign rfl rfl ?_
                                      refine WL.nil ?_
                                      refine WE.then_normal ?_
                                      refine WC.condT rfl (fun h14 => ?_) (fun h14 => ?_)
                                      · try simp at h14
                                        try (exfalso; omega)
                                        all_goals (
                                          refine WC.region ?_
                                          refine WL.move rfl rfl ?_
                                          refine WL.move rfl rfl ?_
                                          refine WL.move rfl rfl ?_
                                          refine WL.perm (fun _ hs => hs.nilTop) ?_
                                          refine WL.callE (dd := some 159) okF61_q rfl rfl (product_spec (regG m i.a) (regG m i.b) I (reg_rg hw _) (reg_rg hw _)) (fun v1 I1 C1 _ hv => ?_) (fun v1 I1 C1 _ hv => ?_)
                                          rotate_left
                                          · obtain ⟨⟨hv1, hv2, hv3⟩, hres⟩ := hv
                                            have hv2 := hv2.symm
                                            subst hv1; subst hv2; subst hv3
                                            refine WE.block_panic ?_
                                            refine WE.then_panic ?_
                                            refine WE.pick [2, 3, 4, 5, 6] rfl rfl ?_
                                            refine WE.perm (fun w hs => hs.join5) ?_
                                            refine WE.panicE ?_
                                            exact ⟨1, (doM_10 (by assumption)).trans (if_neg (by simpa [Rg] using hres)), rfl, rfl, ⟨_, _, _, bh, Aw, kw, Ac, kc, Ai, ki, Ap, kp⟩, Cw, Cc, Cp, ⟨hcode0, hW, hC, hP, hIn, hInN, hInL⟩, rfl⟩
                                          obtain ⟨⟨hv1, hv2, hv3⟩, hres⟩ := hv
                                          have hv2 := hv2.symm
                                          subst hv1; subst hv2; subst hv3
                                          refine WL.nilCheck rfl rfl ?_
                                          refine WL.store_reg 2 (r := i.r) (rs := m.regs) rfl rfl rfl tS2_q rfl hrl ⟨hr0, hr1⟩ rfl ?_
                                          refine WL.nil ?_
                                          refine WE.block_normal ?_
                                          refine WE.then_normal ?_
                                          refine WC.region ?_
                                          refine WL.move rfl rfl ?_
                                          refine WL.move rfl rfl ?_
                                          refine WL.nilCheck rfl rfl ?_
                                          refine WL.fieldAddr rfl tF69_4_q rfl ?_
                                          refine WL.store_mc 2 rfl rfl rfl rfl tS3_q rfl (by show (ints _).length = 16; rw [ints_len]; first | exact hrl | exact hrl2 | (rw [List.length_set]; exact hrl)) rfl (mcs22 (by show (ints _).length = 16; rw [ints_len]; first | exact hrl | exact hrl2 | (rw [List.length_set]; exact hrl))) rfl ?_
                                          refine WL.nil ?_
                                          refine WE.pick [2, 3, 4, 5, 6] rfl rfl ?_
                                          refine WE.perm (fun w hs => hs.join5) ?_
                                          refine WE.endE rfl .nil rfl ?_
                                          exact ⟨_, (doM_10 (by assumption)).trans (if_pos hres), rfl, ⟨_, _, _, bh, Aw, kw, Ac, kc, Ai, ki, Ap, kp⟩, Cw, Cc, Cp, ⟨hcode0, hW, hC, hP, hIn, hInN, hInL⟩, rfl⟩
                                        )
                                      · try simp at h14
                                        try (exfalso; omega)
                                        all_goals (
                                          refine WC.seq ?_
                                          refine WC.region ?_
                                          refine WL.arith rfl rfl rfl rfl ?_
                                          refine WL.assign rfl rfl ?_
                                          refine WL.nil ?_
                                          refine WE.then_normal ?_
                                          refine WC.condT rfl (fun h15 => ?_) (fun h15 => ?_)
                                          · try simp at h15
                                            try (exfalso; omega)
                                            all_goals (
                                              refine WC.region ?_
                                              refine WL.move rfl rfl ?_
                                              refine WL.move rfl rfl ?_
                                              refine WL.move rfl rfl ?_
                                              refine WL.perm (fun _ hs => hs.nilTop) ?_
                                              refine WL.callE (dd := some 167) okF62_q rfl rfl (quotient_spec (regG m i.a) (regG m i.b) I (reg_rg hw _) (reg_rg hw _)) (fun v1 I1 C1 _ hv => ?_) (fun v1 I1 C1 _ hv => ?_)
                                              rotate_left
                                              · obtain ⟨hv2, hv3, hres⟩ := hv
                                                have hv2 := hv2.symm
                                                subst hv2; subst hv3
                                                refine WE.block_panic ?_
                                                refine WE.then_panic ?_
                                                refine WE.pick [2, 3, 4, 5, 6] rfl rfl ?_
                                                refine WE.perm (fun w hs => hs.join5) ?_
                                                rcases hres with ⟨hv1, hz⟩ | ⟨hv1, hz⟩
                                                · subst hv1
                                                  refine WE.panicE ?_
                                                  exact ⟨2, (doM_11 (by assumption)).trans (if_pos hz), rfl, rfl, ⟨_, _, _, bh, Aw, kw, Ac, kc, Ai, ki, Ap, kp⟩, Cw, Cc, Cp, ⟨hcode0, hW, hC, hP, hIn, hInN, hInL⟩, rfl⟩
                                                · subst hv1
                                                  refine WE.panicE ?_
                                                  exact ⟨1, (doM_11 (by assumption)).trans ((if_neg (by omega)).trans (if_pos hz)), rfl, rfl, ⟨_, _, _, bh, Aw, kw, Ac, kc, Ai, ki, Ap, kp⟩, Cw, Cc, Cp, ⟨hcode0, hW, hC, hP, hIn, hInN, hInL⟩, rfl⟩
                                              obtain ⟨⟨hv1, hv2, hv3⟩, hq0, hq1⟩ := hv
                                              have hv2 := hv2.symm
                                              subst hv1; subst hv2; subst hv3
                                              refine WL.move rfl rfl ?_
                                              refine WL.extract rfl rfl rfl ?_
                                              refine WL.extract rfl rfl rfl ?_
                                              refine WL.nilCheck rfl rfl ?_
                                              refine WL.store_reg 2 (r := i.r) (rs := m.regs) rfl rfl rfl tS2_q rfl hrl ⟨hr0, hr1⟩ rfl ?_
                                              refine WL.nil ?_
                                              refine WE.block_normal ?_
                                              refine WE.then_normal ?_
                                              refine WC.region ?_
                                              refine WL.move rfl rfl ?_
                                              refine WL.move rfl rfl ?_
                                              refine WL.nilCheck rfl rfl ?_
                                              refine WL.fieldAddr rfl tF69_4_q rfl ?_
                                              refine WL.store_mc 2 rfl rfl rfl rfl tS3_q rfl (by show (ints _).length = 16; rw [ints_len]; first | exact hrl | exact hrl2 | (rw [List.length_set]; exact hrl)) rfl (mcs22 (by show (ints _).length = 16; rw [ints_len]; first | exact hrl | exact hrl2 | (rw [List.length_set]; exact hrl))) rfl ?_
                                              refine WL.nil ?_
                                              refine WE.pick [2, 3, 4, 5, 6] rfl rfl ?_
                                              refine WE.perm (fun w hs => hs.join5) ?_
                                              refine WE.endE rfl .nil rfl ?_
                                              exact ⟨_, (doM_11 (by assumption)).trans ((if_neg hq0).trans (if_neg hq1)), rfl, ⟨_, _, _, bh, Aw, kw, Ac, kc, Ai, ki, Ap, kp⟩, Cw, Cc, Cp, ⟨hcode0, hW, hC, hP, hIn, hInN, hInL⟩, rfl⟩
                                            )
                                          · try simp at h15
                                            try (exfalso; omega)
                                            all_goals (
                                              refine WC.seq ?_
                                              refine WC.region ?_
                                              refine WL.arith rfl rfl rfl rfl ?_
                                              refine WL.assign rfl rfl ?_
                                              refine WL.nil ?_
                                              refine WE.then_normal ?_
                                              refine WC.condT rfl (fun h16 => ?_) (fun h16 => ?_)
                                              · try simp at h16
                                                try (exfalso; omega)
                                                all_goals (
                                                  refine WC.region ?_
                                                  refine WL.move rfl rfl ?_
                                                  refine WL.move rfl rfl ?_
                                                  refine WL.move rfl rfl ?_
                                                  refine WL.perm (fun _ hs => hs.nilTop) ?_
                                                  refine WL.callE (dd := some 177) okF62_q rfl rfl (quotient_spec (regG m i.a) (regG m i.b) I (reg_rg hw _) (reg_rg hw _)) (fun v1 I1 C1 _ hv => ?_) (fun v1 I1 C1 _ hv => ?_)
                                                  rotate_left
                                                  · obtain ⟨hv2, hv3, hres⟩ := hv
                                                    have hv2 := hv2.symm
                                                    subst hv2; subst hv3
                                                    refine WE.block_panic ?_
                                                    refine WE.then_panic ?_
                                                    refine WE.pick [2, 3, 4, 5, 6] rfl rfl ?_
                                                    refine WE.perm (fun w hs => hs.join5) ?_
                                                    rcases hres with ⟨hv1, hz⟩ | ⟨hv1, hz⟩
                                                    · subst hv1
                                                      refine WE.panicE ?_
                                                      exact ⟨2, (doM_12 (by assumption)).trans (if_pos hz), rfl, rfl, ⟨_, _, _, bh, Aw, kw, Ac, kc, Ai, ki, Ap, kp⟩, Cw, Cc, Cp, ⟨hcode0, hW, hC, hP, hIn, hInN, hInL⟩, rfl⟩
                                                    · subst hv1
                                                      refine WE.panicE ?_
                                                      exact ⟨1, (doM_12 (by assumption)).trans ((if_neg (by omega)).trans (if_pos hz)), rfl, rfl, ⟨_, _, _, bh, Aw, kw, Ac, kc, Ai, ki, Ap, kp⟩, Cw, Cc, Cp, ⟨hcode0, hW, hC, hP, hIn, hInN, hInL⟩, rfl⟩
                                                  obtain ⟨⟨hv1, hv2, hv3⟩, hq0, hq1⟩ := hv
                                                  have hv2 := hv2.symm
                                                  subst hv1; subst hv2; subst hv3
                                                  refine WL.move rfl rfl ?_
                                                  refine WL.extract rfl rfl rfl ?_
                                                  refine WL.extract rfl rfl rfl ?_
                                                  refine WL.nilCheck rfl rfl ?_
                                                  refine WL.store_reg 2 (r := i.r) (rs := m.regs) rfl rfl rfl tS2_q rfl hrl ⟨hr0, hr1⟩ rfl ?_
                                                  refine WL.nil ?_
                                                  refine WE.block_normal ?_
                                                  refine WE.then_normal ?_
                                                  refine WC.region ?_
                                                  refine WL.move rfl rfl ?_
                                                  refine WL.move rfl rfl ?_
                                                  refine WL.nilCheck rfl rfl ?_
                                                  refine WL.fieldAddr rfl tF69_4_q rfl ?_
                                                  refine WL.store_mc 2 rfl rfl rfl rfl tS3_q rfl (by show (ints _).length = 16; rw [ints_len]; first | exact hrl | exact hrl2 | (rw [List.length_set]; exact hrl)) rfl (mcs22 (by show (ints _).length = 16; rw [ints_len]; first | exact hrl | exact hrl2 | (rw [List.length_set]; exact hrl))) rfl ?_
                                                  refine WL.nil ?_
                                                  refine WE.pick [2, 3, 4, 5, 6] rfl rfl ?_
                                                  refine WE.perm (fun w hs => hs.join5) ?_
                                                  refine WE.endE rfl .nil rfl ?_
                                                  exact ⟨_, (doM_12 (by assumption)).trans ((if_neg hq0).trans (if_neg hq1)), rfl, ⟨_, _, _, bh, Aw, kw, Ac, kc, Ai, ki, Ap, kp⟩, Cw, Cc, Cp, ⟨hcode0, hW, hC, hP, hIn, hInN, hInL⟩, rfl⟩
                                                )
                                              · try simp at h16
                                                try (exfalso; omega)
                                                all_goals (
                                                  refine WC.seq ?_
                                                  refine WC.region ?_
                                                  refine WL.arith rfl rfl rfl rfl ?_
                                                  refine WL.assign rfl rfl ?_
                                                  refine WL.nil ?_
                                                  refine WE.then_normal ?_
                                                  refine WC.condT rfl (fun h17 => ?_) (fun h17 => ?_)
                                                  · try simp at h17
                                                    try (exfalso; omega)
                                                    all_goals (
                                                      refine WC.region ?_
                                                      refine WL.move rfl rfl ?_
                                                      refine WL.move rfl rfl ?_
                                                      refine WL.move rfl rfl ?_
                                                      refine WL.arith rfl rfl rfl rfl ?_
                                                      refine WL.callV okF63_q rfl rfl (one_spec _ I) ?_
                                                      refine WL.nilCheck rfl rfl ?_
                                                      refine WL.store_reg 1 (r := i.r) (rs := m.regs) rfl rfl rfl tS2_q rfl hrl ⟨hr0, hr1⟩ rfl ?_
                                                      refine WL.nil ?_
                                                      refine WE.block_normal ?_
                                                      refine WE.then_normal ?_
                                                      refine WC.region ?_
                                                      refine WL.move rfl rfl ?_
                                                      refine WL.move rfl rfl ?_
                                                      refine WL.nilCheck rfl rfl ?_
                                                      refine WL.fieldAddr rfl tF69_4_q rfl ?_
                                                      refine WL.store_mc 1 rfl rfl rfl rfl tS3_q rfl (by show (ints _).length = 16; rw [ints_len]; first | exact hrl | exact hrl2 | (rw [List.length_set]; exact hrl)) rfl (mcs22 (by show (ints _).length = 16; rw [ints_len]; first | exact hrl | exact hrl2 | (rw [List.length_set]; exact hrl))) rfl ?_
                                                      refine WL.nil ?_
                                                      refine WE.pick [1, 2, 3, 4, 5] rfl rfl ?_
                                                      refine WE.perm (fun w hs => hs.join5) ?_
                                                      refine WE.endE rfl .nil rfl ?_
                                                      exact ⟨_, (doM_13 (by assumption)), rfl, ⟨_, _, _, bh, Aw, kw, Ac, kc, Ai, ki, Ap, kp⟩, Cw, Cc, Cp, ⟨hcode0, hW, hC, hP, hIn, hInN, hInL⟩, rfl⟩
                                                    )
                                                  · try simp at h17
                                                    try (exfalso; omega)
                                                    all_goals (
                                                      refine WC.seq ?_
                                                      refine WC.region ?_
                                                      refine WL.arith rfl rfl rfl rfl ?_
                                                      refine WL.assign rfl rfl ?_
                                                      refine WL.nil ?_
                                                      refine WE.then_normal ?_
                                                      refine WC.condT rfl (fun h18 => ?_) (fun h18 => ?_)
                                                      · try simp at h18
                                                        try (exfalso; omega)
                                                        all_goals (
                                                          refine WC.region ?_
                                                          refine WL.move rfl rfl ?_
                                                          refine WL.move rfl rfl ?_
                                                          refine WL.move rfl rfl ?_
                                                          refine WL.arith rfl rfl rfl rfl ?_
                                                          refine WL.callV okF63_q rfl rfl (one_spec _ I) ?_
                                                          refine WL.nilCheck rfl rfl ?_
                                                          refine WL.store_reg 1 (r := i.r) (rs := m.regs) rfl rfl rfl tS2_q rfl hrl ⟨hr0, hr1⟩ rfl ?_
                                                          refine WL.nil ?_
                                                          refine WE.block_normal ?_
                                                          refine WE.then_normal ?_
                                                          refine WC.region ?_
                                                          refine WL.move rfl rfl ?_
                                                          refine WL.move rfl rfl ?_
                                                          refine WL.nilCheck rfl rfl ?_
                                                          refine WL.fieldAddr rfl tF69_4_q rfl ?_
                                                          refine WL.store_mc 1 rfl rfl rfl rfl tS3_q rfl (by show (ints _).length = 16; rw [ints_len]; first | exact hrl | exact hrl2 | (rw [List.length_set]; exact hrl)) rfl (mcs22 (by show (ints _).length = 16; rw [ints_len]; first | exact hrl | exact hrl2 | (rw [List.length_set]; exact hrl))) rfl ?_
                                                          refine WL.nil ?_
                                                          refine WE.pick [1, 2, 3, 4, 5] rfl rfl ?_
                                                          refine WE.perm (fun w hs => hs.join5) ?_
                                                          refine WE.endE rfl .nil rfl ?_
                                                          exact ⟨_, (doM_14 (by assumption)), rfl, ⟨_, _, _, bh, Aw, kw, Ac, kc, Ai, ki, Ap, kp⟩, Cw, Cc, Cp, ⟨hcode0, hW, hC, hP, hIn, hInN, hInL⟩, rfl⟩
                                                        )
                                                      · try simp at h18
                                                        try (exfalso; omega)
                                                        all_goals (
                                                          refine WC.seq ?_
                                                          refine WC.region ?_
                                                          refine WL.arith rfl rfl rfl rfl ?_
                                                          refine WL.assign rfl rfl ?_
                                                          refine WL.nil ?_
                                                          refine WE.then_normal ?_
                                                          refine WC.condT rfl (fun h19 => ?_) (fun h19 => ?_)
                                                          · try simp at h19
                                                            try (exfalso; omega)
                                                            all_goals (
                                                              refine WC.region ?_
                                                              refine WL.move rfl rfl ?_
                                                              refine WL.move rfl rfl ?_
                                                              refine WL.move rfl rfl ?_
                                                              refine WL.arith rfl rfl rfl rfl ?_
                                                              refine WL.callV okF63_q rfl rfl (one_spec _ I) ?_
                                                              refine WL.nilCheck rfl rfl ?_
                                                              refine WL.store_reg 1 (r := i.r) (rs := m.regs) rfl rfl rfl tS2_q rfl hrl ⟨hr0, hr1⟩ rfl ?_
                                                              refine WL.nil ?_
                                                              refine WE.block_normal ?_
                                                              refine WE.then_normal ?_
                                                              refine WC.region ?_
                                                              refine WL.move rfl rfl ?_
                                                              refine WL.move rfl rfl ?_
                                                              refine WL.nilCheck rfl rfl ?_
                                                              refine WL.fieldAddr rfl tF69_4_q rfl ?_
                                                              refine WL.store_mc 1 rfl rfl rfl rfl tS3_q rfl (by show (ints _).length = 16; rw [ints_len]; first | exact hrl | exact hrl2 | (rw [List.length_set]; exact hrl)) rfl (mcs22 (by show (ints _).length = 16; rw [ints_len]; first | exact hrl | exact hrl2 | (rw [List.length_set]; exact hrl))) rfl ?_
                                                              refine WL.nil ?_
                                                              refine WE.pick [1, 2, 3, 4, 5] rfl rfl ?_
                                                              refine WE.perm (fun w hs => hs.join5) ?_
                                                              refine WE.endE rfl .nil rfl ?_
                                                              exact ⟨_, (doM_15 (by assumption)), rfl, ⟨_, _, _, bh, Aw, kw, Ac, kc, Ai, ki, Ap, kp⟩, Cw, Cc, Cp, ⟨hcode0, hW, hC, hP, hIn, hInN, hInL⟩, rfl⟩
                                                            )
                                                          · try simp at h19
                                                            try (exfalso; omega)
                                                            all_goals (
                                                              refine WC.seq ?_
                                                              refine WC.region ?_
                                                              refine WL.arith rfl rfl rfl rfl ?_
                                                              refine WL.assign rfl rfl ?_
                                                              refine WL.nil ?_
                                                              refine WE.then_normal ?_
                                                              refine WC.condT rfl (fun h20 => ?_) (fun h20 => ?_)
                                                              · try simp at h20
                                                                try (exfalso; omega)
                                                                all_goals (
                                                                  refine WC.region ?_
                                                                  refine WL.move rfl rfl ?_
                                                                  refine WL.move rfl rfl ?_
                                                                  refine WL.perm (fun _ hs => hs.nilTop) ?_
                                                                  refine WL.callE (dd := some 209) okF60_q rfl rfl (sum_spec 0 (regG m i.a) true I rg0 (reg_rg hw _)) (fun v1 I1 C1 _ hv => ?_) (fun v1 I1 C1 _ hv => ?_)
                                                                  rotate_left
                                                                  · obtain ⟨⟨hv1, hv2, hv3⟩, hres⟩ := hv
                                                                    have hv2 := hv2.symm
                                                                    subst hv1; subst hv2; subst hv3
                                                                    refine WE.block_panic ?_
                                                                    refine WE.then_panic ?_
                                                                    refine WE.pick [2, 3, 4, 5, 6] rfl rfl ?_
                                                                    refine WE.perm (fun w hs => hs.join5) ?_
                                                                    refine WE.panicE ?_
                                                                    exact ⟨1, (doM_16 (by assumption)).trans (if_neg (by simpa [Rg] using hres)), rfl, rfl, ⟨_, _, _, bh, Aw, kw, Ac, kc, Ai, ki, Ap, kp⟩, Cw, Cc, Cp, ⟨hcode0, hW, hC, hP, hIn, hInN, hInL⟩, rfl⟩
                                                                  obtain ⟨⟨hv1, hv2, hv3⟩, hres⟩ := hv
                                                                  have hv2 := hv2.symm
                                                                  subst hv1; subst hv2; subst hv3
                                                                  refine WL.nilCheck rfl rfl ?_
                                                                  refine WL.store_reg 2 (r := i.r) (rs := m.regs) rfl rfl rfl tS2_q rfl hrl ⟨hr0, hr1⟩ rfl ?_
                                                                  refine WL.nil ?_
                                                                  refine WE.block_normal ?_
                                                                  refine WE.then_normal ?_
                                                                  refine WC.region ?_
                                                                  refine WL.move rfl rfl ?_
                                                                  refine WL.move rfl rfl ?_
                                                                  refine WL.nilCheck rfl rfl ?_
                                                                  refine WL.fieldAddr rfl tF69_4_q rfl ?_
                                                                  refine WL.store_mc 2 rfl rfl rfl rfl tS3_q rfl (by show (ints _).length = 16; rw [ints_len]; first | exact hrl | exact hrl2 | (rw [List.length_set]; exact hrl)) rfl (mcs22 (by show (ints _).length = 16; rw [ints_len]; first | exact hrl | exact hrl2 | (rw [List.length_set]; exact hrl))) rfl ?_
                                                                  refine WL.nil ?_
                                                                  refine WE.pick [2, 3, 4, 5, 6] rfl rfl ?_
                                                                  refine WE.perm (fun w hs => hs.join5) ?_
                                                                  refine WE.endE rfl .nil rfl ?_
                                                                  exact ⟨_, (doM_16 (by assumption)).trans (if_pos (by simpa [Rg] using hres)), rfl, ⟨_, _, _, bh, Aw, kw, Ac, kc, Ai, ki, Ap, kp⟩, Cw, Cc, Cp, ⟨hcode0, hW, hC, hP, hIn, hInN, hInL⟩, rfl⟩
                                                                )
                                                              · try simp at h20
                                                                try (exfalso; omega)
                                                                all_goals (
                                                                  refine WC.seq ?_
                                                                  refine WC.region ?_
                                                                  refine WL.arith rfl rfl rfl rfl ?_
                                                                  refine WL.assign rfl rfl ?_
                                                                  refine WL.nil ?_
                                                                  refine WE.then_normal ?_
                                                                  refine WC.condT rfl (fun h21 => ?_) (fun h21 => ?_)
                                                                  · try simp at h21
                                                                    try (exfalso; omega)
                                                                    all_goals (
                                                                      refine WC.region ?_
                                                                      refine WL.move rfl rfl ?_
                                                                      refine WL.move rfl rfl ?_
                                                                      first | refine WL.sub rfl rfl (by omega) rfl ?_ | refine WL.arith rfl rfl rfl rfl ?_
                                                                      refine WL.nilCheck rfl rfl ?_
                                                                      refine WL.store_reg 1 (r := i.r) (rs := m.regs) rfl rfl rfl tS2_q rfl hrl ⟨hr0, hr1⟩ rfl ?_
                                                                      refine WL.nil ?_
                                                                      refine WE.block_normal ?_
                                                                      refine WE.then_normal ?_
                                                                      refine WC.region ?_
                                                                      refine WL.move rfl rfl ?_
                                                                      refine WL.move rfl rfl ?_
                                                                      refine WL.nilCheck rfl rfl ?_
                                                                      refine WL.fieldAddr rfl tF69_4_q rfl ?_
                                                                      refine WL.store_mc 1 rfl rfl rfl rfl tS3_q rfl (by show (ints _).length = 16; rw [ints_len]; first | exact hrl | exact hrl2 | (rw [List.length_set]; exact hrl)) rfl (mcs22 (by show (ints _).length = 16; rw [ints_len]; first | exact hrl | exact hrl2 | (rw [List.length_set]; exact hrl))) rfl ?_
                                                                      refine WL.nil ?_
                                                                      refine WE.pick [1, 2, 3, 4, 5] rfl rfl ?_
                                                                      refine WE.perm (fun w hs => hs.join5) ?_
                                                                      refine WE.endE rfl .nil rfl ?_
                                                                      exact ⟨_, (doM_17 (by assumption)), rfl, ⟨_, _, _, bh, Aw, kw, Ac, kc, Ai, ki, Ap, kp⟩, Cw, Cc, Cp, ⟨hcode0, hW, hC, hP, hIn, hInN, hInL⟩, rfl⟩
                                                                    )
                                                                  · try simp at h21
                                                                    try (exfalso; omega)
                                                                    all_goals (
                                                                      refine WC.seq ?_
                                                                      refine WC.region ?_
                                                                      refine WL.arith rfl rfl rfl rfl ?_
                                                                      refine WL.assign rfl rfl ?_
                                                                      refine WL.nil ?_
                                                                      refine WE.then_normal ?_
                                                                      refine WC.condT rfl (fun h22 => ?_) (fun h22 => ?_)
                                                                      · try simp at h22
                                                                        try (exfalso; omega)
                                                                        all_goals (
                                                                          refine WC.region ?_
                                                                          refine WL.fieldAddr rfl tF75_4_q rfl ?_
                                                                          refine WL.load_own 0 rfl rfl tA2_q rfl rfl ?_
                                                                          refine WL.assign rfl rfl ?_
                                                                          refine WL.nil ?_
                                                                          refine WE.block_normal ?_
                                                                          refine WE.then_normal ?_
                                                                          refine WC.region ?_
                                                                          refine WL.move rfl rfl ?_
                                                                          refine WL.move rfl rfl ?_
                                                                          refine WL.nilCheck rfl rfl ?_
                                                                          refine WL.fieldAddr rfl tF69_4_q rfl ?_
                                                                          refine WL.store_mc 1 rfl rfl rfl rfl tS3_q rfl (by show (ints _).length = 16; rw [ints_len]; first | exact hrl | exact hrl2 | (rw [List.length_set]; exact hrl)) rfl (mcs22 (by show (ints _).length = 16; rw [ints_len]; first | exact hrl | exact hrl2 | (rw [List.length_set]; exact hrl))) rfl ?_
                                                                          refine WL.nil ?_
                                                                          refine WE.pick [1, 2, 3, 4, 5] rfl rfl ?_
                                                                          refine WE.perm (fun w hs => hs.join5) ?_
                                                                          refine WE.endE rfl .nil rfl ?_
                                                                          exact ⟨_, (doM_18 (by assumption)), rfl, ⟨_, _, _, bh, Aw, kw, Ac, kc, Ai, ki, Ap, kp⟩, Cw, Cc, Cp, ⟨hcode0, hW, hC, hP, hIn, hInN, hInL⟩, rfl⟩
                                                                        )
                                                                      · try simp at h22
                                                                        try (exfalso; omega)
                                                                        all_goals (
                                                                          refine WC.seq ?_
                                                                          refine WC.region ?_
                                                                          refine WL.arith rfl rfl rfl rfl ?_
                                                                          refine WL.assign rfl rfl ?_
                                                                          refine WL.nil ?_
                                                                          refine WE.then_normal ?_
                                                                          refine WC.condT rfl (fun h23 => ?_) (fun h23 => ?_)
                                                                          · try simp at h23
                                                                            try (exfalso; omega)
                                                                            all_goals (
                                                                              refine WC.seq ?_
                                                                              refine WC.region ?_
                                                                              refine WL.move rfl rfl ?_
                                                                              refine WL.arith rfl rfl rfl rfl ?_
                                                                              refine WL.nil ?_
                                                                              refine WE.then_normal ?_
                                                                              refine WC.condT rfl (fun h24 => ?_) (fun h24 => ?_)
                                                                              · try simp at h24
                                                                                try (exfalso; omega)
                                                                                all_goals (
                                                                                  refine WC.region ?_
                                                                                  refine WL.fieldAddr rfl tF75_4_q rfl ?_
                                                                                  refine WL.load_own 0 rfl rfl tA2_q rfl rfl ?_
                                                                                  refine WL.assign rfl rfl ?_
                                                                                  refine WL.nil ?_
                                                                                  refine WE.block_normal ?_
                                                                                  refine WE.then_normal ?_
                                                                                  refine WC.region ?_
                                                                                  refine WL.move rfl rfl ?_
                                                                                  refine WL.move rfl rfl ?_
                                                                                  refine WL.nilCheck rfl rfl ?_
                                                                                  refine WL.fieldAddr rfl tF69_4_q rfl ?_
                                                                                  refine WL.store_mc 1 rfl rfl rfl rfl tS3_q rfl (by show (ints _).length = 16; rw [ints_len]; first | exact hrl | exact hrl2 | (rw [List.length_set]; exact hrl)) rfl (mcs22 (by show (ints _).length = 16; rw [ints_len]; first | exact hrl | exact hrl2 | (rw [List.length_set]; exact hrl))) rfl ?_
                                                                                  refine WL.nil ?_
                                                                                  have hd19 : doM c m i = .ok { m with at_ := i.n } := by rw [doM_19 (by assumption), if_pos (by assumption)]
                                                                                  refine WE.pick [1, 2, 3, 4, 5] rfl rfl ?_
                                                                                  refine WE.perm (fun w hs => hs.join5) ?_
                                                                                  refine WE.endE rfl .nil rfl ?_
                                                                                  exact ⟨_, hd19, rfl, ⟨_, _, _, bh, Aw, kw, Ac, kc, Ai, ki, Ap, kp⟩, Cw, Cc, Cp, ⟨hcode0, hW, hC, hP, hIn, hInN, hInL⟩, rfl⟩
                                                                                )
                                                                              · try simp at h24
                                                                                try (exfalso; omega)
                                                                                all_goals (
                                                                                  refine WC.skip ?_
                                                                                  refine WE.block_normal ?_
                                                                                  refine WE.then_normal ?_
                                                                                  refine WC.region ?_
                                                                                  refine WL.move rfl rfl ?_
                                                                                  refine WL.move rfl rfl ?_
                                                                                  refine WL.nilCheck rfl rfl ?_
                                                                                  refine WL.fieldAddr rfl tF69_4_q rfl ?_
                                                                                  refine WL.store_mc 1 rfl rfl rfl rfl tS3_q rfl (by show (ints _).length = 16; rw [ints_len]; first | exact hrl | exact hrl2 | (rw [List.length_set]; exact hrl)) rfl (mcs22 (by show (ints _).length = 16; rw [ints_len]; first | exact hrl | exact hrl2 | (rw [List.length_set]; exact hrl))) rfl ?_
                                                                                  refine WL.nil ?_
                                                                                  have hd19 : doM c m i = .ok { m with at_ := m.at_ + 1 } := by rw [doM_19 (by assumption), if_neg (by assumption)]
                                                                                  refine WE.pick [1, 2, 3, 4, 5] rfl rfl ?_
                                                                                  refine WE.perm (fun w hs => hs.join5) ?_
                                                                                  refine WE.endE rfl .nil rfl ?_
                                                                                  exact ⟨_, hd19, rfl, ⟨_, _, _, bh, Aw, kw, Ac, kc, Ai, ki, Ap, kp⟩, Cw, Cc, Cp, ⟨hcode0, hW, hC, hP, hIn, hInN, hInL⟩, rfl⟩
                                                                                )
                                                                            )
                                                                          · try simp at h23
                                                                            try (exfalso; omega)
                                                                            all_goals (
                                                                              refine WC.seq ?_
                                                                              refine WC.region ?_
                                                                              refine WL.arith rfl rfl rfl rfl ?_
                                                                              refine WL.assign rfl rfl ?_
                                                                              refine WL.nil ?_
                                                                              refine WE.then_normal ?_
                                                                              refine WC.condT rfl (fun h25 => ?_) (fun h25 => ?_)
                                                                              · try simp at h25
                                                                                try (exfalso; omega)
                                                                                all_goals (
                                                                                  refine WC.region ?_
                                                                                  have hnK := withinK hi (by assumption)
                                                                                  refine WL.move rfl rfl ?_
                                                                                  refine WL.fieldAddr rfl tF75_4_q rfl ?_
                                                                                  refine WL.load_own 0 rfl rfl tA2_q rfl rfl ?_
                                                                                  refine WL.pick [1, 2, 3, 4, 5, 0] rfl rfl ?_
                                                                                  obtain ⟨kk, hkk⟩ : ∃ q : Nat, i.n = q := ⟨i.n.toNat, by omega⟩
                                                                                  rw [hkk]
                                                                                  refine WL.perm (fun _ hs => hs.join5) ?_
                                                                                  refine WL.callE (dd := some 232) okF64_q rfl rfl (enter_spec c m bm Em Eh _ I kk (by omega) hM0 hw) (fun v1 I1 C1 _ hv => ?_) (fun v1 I1 C1 _ hv => ?_)
                                                                                  rotate_left
                                                                                  · obtain ⟨hv1, hcn, hv2, hMe⟩ := hv
                                                                                    have hv2 := hv2.symm
                                                                                    subst hv1; subst hv2
                                                                                    refine WE.block_panic ?_
                                                                                    refine WE.then_panic ?_
                                                                                    refine WE.pick [0] rfl rfl ?_
                                                                                    refine WE.panicE ?_
                                                                                    exact ⟨4, (doM_20 (by assumption)).trans (if_pos hcn), rfl, rfl, hMe⟩
                                                                                  obtain ⟨hcn, hv1, hv2, hMe⟩ := hv
                                                                                  have hv2 := hv2.symm
                                                                                  subst hv1; subst hv2
                                                                                  obtain ⟨h2, Cw2, Cc2, Cp2, hM52, rfl⟩ := hMe
                                                                                  refine WL.perm (fun _ hs => hs.part5) ?_
                                                                                  have hrl2 : (enterM c m kk).regs.length = 16 := rfl
                                                                                  rw [← hkk] at *
                                                                                  refine WL.assign rfl rfl ?_
                                                                                  refine WL.nil ?_
                                                                                  refine WE.block_normal ?_
                                                                                  refine WE.then_normal ?_
                                                                                  refine WC.region ?_
                                                                                  refine WL.move rfl rfl ?_
                                                                                  refine WL.move rfl rfl ?_
                                                                                  refine WL.nilCheck rfl rfl ?_
                                                                                  refine WL.fieldAddr rfl tF69_4_q rfl ?_
                                                                                  refine WL.store_mc 0 rfl rfl rfl rfl tS3_q rfl (by show (ints _).length = 16; rw [ints_len]; first | exact hrl | exact hrl2 | (rw [List.length_set]; exact hrl)) rfl (mcs22 (by show (ints _).length = 16; rw [ints_len]; first | exact hrl | exact hrl2 | (rw [List.length_set]; exact hrl))) rfl ?_
                                                                                  refine WL.nil ?_
                                                                                  refine WE.pick [0, 1, 2, 3, 4] rfl rfl ?_
                                                                                  refine WE.perm (fun w hs => hs.join5) ?_
                                                                                  refine WE.endE rfl .nil rfl ?_
                                                                                  exact ⟨_, (doM_20 (by assumption)).trans (if_neg hcn), rfl, h2, Cw2, Cc2, Cp2, ⟨hM52.code, hM52.words, hM52.calls, hM52.printed, hM52.input, hM52.inNil, hM52.inLen⟩, rfl⟩
                                                                                )
                                                                              · try simp at h25
                                                                                try (exfalso; omega)
                                                                                all_goals (
                                                                                  refine WC.seq ?_
                                                                                  refine WC.region ?_
                                                                                  refine WL.arith rfl rfl rfl rfl ?_
                                                                                  refine WL.assign rfl rfl ?_
                                                                                  refine WL.nil ?_
                                                                                  refine WE.then_normal ?_
                                                                                  refine WC.condT rfl (fun h26 => ?_) (fun h26 => ?_)
                                                                                  · try simp at h26
                                                                                    try (exfalso; omega)
                                                                                    all_goals (
                                                                                      refine WC.region ?_
                                                                                      refine WL.move rfl rfl ?_
                                                                                      refine WL.pick [1, 2, 3, 4, 5, 0] rfl rfl ?_
                                                                                      refine WL.perm (fun _ hs => hs.join5) ?_
                                                                                      refine WL.callS (dd := some 236) okF65_q rfl rfl (leave_spec c m bm Em Eh _ I hM0 hw) (fun v1 I1 C1 _ hv => ?_)
                                                                                      obtain ⟨hv1, hv2, hMe⟩ := hv
                                                                                      have hv2 := hv2.symm
                                                                                      subst hv1; subst hv2
                                                                                      obtain ⟨h2, Cw2, Cc2, Cp2, hM52, rfl⟩ := hMe
                                                                                      refine WL.perm (fun _ hs => hs.part5) ?_
                                                                                      have hrl2 : (leaveM c m).regs.length = 16 := by unfold leaveM; split <;> first | exact hrl | rfl
                                                                                      refine WL.assign rfl rfl ?_
                                                                                      refine WL.nil ?_
                                                                                      refine WE.block_normal ?_
                                                                                      refine WE.then_normal ?_
                                                                                      refine WC.region ?_
                                                                                      refine WL.move rfl rfl ?_
                                                                                      refine WL.move rfl rfl ?_
                                                                                      refine WL.nilCheck rfl rfl ?_
                                                                                      refine WL.fieldAddr rfl tF69_4_q rfl ?_
                                                                                      refine WL.store_mc 0 rfl rfl rfl rfl tS3_q rfl (by show (ints _).length = 16; rw [ints_len]; first | exact hrl | exact hrl2 | (rw [List.length_set]; exact hrl)) rfl (mcs22 (by show (ints _).length = 16; rw [ints_len]; first | exact hrl | exact hrl2 | (rw [List.length_set]; exact hrl))) rfl ?_
                                                                                      refine WL.nil ?_
                                                                                      refine WE.pick [0, 1, 2, 3, 4] rfl rfl ?_
                                                                                      refine WE.perm (fun w hs => hs.join5) ?_
                                                                                      refine WE.endE rfl .nil rfl ?_
                                                                                      exact ⟨_, (doM_21 (by assumption)), rfl, h2, Cw2, Cc2, Cp2, ⟨hM52.code, hM52.words, hM52.calls, hM52.printed, hM52.input, hM52.inNil, hM52.inLen⟩, rfl⟩
                                                                                    )
                                                                                  · try simp at h26
                                                                                    try (exfalso; omega)
                                                                                    all_goals (
                                                                                      refine WC.seq ?_
                                                                                      refine WC.region ?_
                                                                                      refine WL.arith rfl rfl rfl rfl ?_
                                                                                      refine WL.assign rfl rfl ?_
                                                                                      refine WL.nil ?_
                                                                                      refine WE.then_normal ?_
                                                                                      refine WC.condT rfl (fun h27 => ?_) (fun h27 => ?_)
                                                                                      · try simp at h27
                                                                                        try (exfalso; omega)
                                                                                        all_goals (
                                                                                          refine WC.seq ?_
                                                                                          refine WC.region_staged (g := 6) (e := 6) [1, 2, 4, 5] tMixed_q rfl rfl (fun hI0 => ?_)
                                                                                          refine WS.own (k := 0) rfl (by kernel_rfl) (by kernel_rfl) (by kernel_rfl) rfl calm_no ?_
                                                                                          have hn4 := withinC hi (by assumption)
                                                                                          obtain ⟨kk, hkk⟩ : ∃ q : Nat, i.n = q := ⟨i.n.toNat, by omega⟩
                                                                                          have hnk : i.n.toNat = kk := by omega
                                                                                          refine WL.move rfl rfl ?_
                                                                                          refine WL.nil ?_
                                                                                          refine WS.onward ?_
                                                                                          refine WS.own (k := 1) rfl (by kernel_rfl) (by kernel_rfl) (by kernel_rfl) rfl calm_no ?_
                                                                                          refine WL.nilCheck rfl rfl ?_
                                                                                          refine WL.nil ?_
                                                                                          refine WS.onward ?_
                                                                                          refine WS.own (k := 2) rfl (by kernel_rfl) (by kernel_rfl) (by kernel_rfl) rfl calm_no ?_
                                                                                          refine WL.fieldAddr rfl tF69_1_q rfl ?_
                                                                                          refine WL.nil ?_
                                                                                          refine WS.onward ?_
                                                                                          refine WS.own (k := 3) rfl (by kernel_rfl) (by kernel_rfl) (by kernel_rfl) rfl calm_no ?_
                                                                                          refine WL.load_own 1 rfl rfl tA61_q mc4 rfl ?_
                                                                                          refine WL.nil ?_
                                                                                          refine WS.onward ?_
                                                                                          refine WS.own (k := 4) rfl (by kernel_rfl) (by kernel_rfl) (by kernel_rfl) rfl calm_no ?_
                                                                                          refine WL.fieldAddr rfl tF75_4_q rfl ?_
                                                                                          refine WL.nil ?_
                                                                                          refine WS.onward ?_
                                                                                          refine WS.own (k := 5) rfl (by kernel_rfl) (by kernel_rfl) (by kernel_rfl) rfl calm_no ?_
                                                                                          refine WL.load_own 0 rfl rfl tA2_q rfl rfl ?_
                                                                                          refine WL.nil ?_
                                                                                          refine WS.onward ?_
                                                                                          refine WS.touch (k := 6) rfl (by kernel_rfl) rfl ?_
                                                                                          refine WL.reslot 245 rfl (congrArg (Value.int .i64) hkk) ?_
                                                                                          refine WL.pick [3, 0, 1, 2, 4, 5] rfl rfl ?_
                                                                                          refine WL.callS (dd := some 246) okF66_q rfl rfl (take_spec m.heap kk bh Eh I hw.heap (by omega)) (fun v1 I1 C1 _ hv => ?_)
                                                                                          obtain ⟨hv1, hv2, hv3⟩ := hv
                                                                                          have hv2 := hv2.symm
                                                                                          subst hv1; subst hv2; subst hv3
                                                                                          refine WL.nil ?_
                                                                                          refine WS.next (e' := 12) rfl (.inl rfl) ?_
                                                                                          refine WS.own (k := 7) rfl (by kernel_rfl) (by kernel_rfl) (by kernel_rfl) rfl calm_no ?_
                                                                                          refine WL.move rfl rfl ?_
                                                                                          refine WL.nil ?_
                                                                                          refine WS.onward ?_
                                                                                          refine WS.own (k := 8) rfl (by kernel_rfl) (by kernel_rfl) (by kernel_rfl) rfl calm_no ?_
                                                                                          refine WL.extract rfl rfl rfl ?_
                                                                                          refine WL.nil ?_
                                                                                          refine WS.onward ?_
                                                                                          refine WS.own (k := 9) rfl (by kernel_rfl) (by kernel_rfl) (by kernel_rfl) rfl calm_no ?_
                                                                                          refine WL.extract rfl rfl rfl ?_
                                                                                          refine WL.nil ?_
                                                                                          refine WS.onward ?_
                                                                                          refine WS.own (k := 10) rfl (by kernel_rfl) (by kernel_rfl) (by kernel_rfl) rfl calm_no ?_
                                                                                          refine WL.assign rfl rfl ?_
                                                                                          refine WL.nil ?_
                                                                                          refine WS.onward ?_
                                                                                          refine WS.own (k := 11) rfl (by kernel_rfl) (by kernel_rfl) (by kernel_rfl) rfl calm_no ?_
                                                                                          refine WL.assign rfl rfl ?_
                                                                                          refine WL.nil ?_
                                                                                          refine WS.onward ?_
                                                                                          refine WS.doneC (by kernel_rfl) ?_
                                                                                          refine WE.then_normal ?_
                                                                                          refine WC.seq ?_
                                                                                          refine WC.seq ?_
                                                                                          refine WC.region ?_
                                                                                          refine WL.move rfl rfl ?_
                                                                                          refine WL.arith rfl rfl rfl rfl ?_
                                                                                          refine WL.nil ?_
                                                                                          refine WE.then_normal ?_
                                                                                          refine WC.condT rfl (fun h28 => ?_) (fun h28 => ?_)
                                                                                          · try simp at h28
                                                                                            try (exfalso; omega)
                                                                                            all_goals (
                                                                                              refine WC.region ?_
                                                                                              refine WL.perm (fun _ hs => hs.nilTop) ?_
                                                                                              refine WL.callE (dd := some 251) okF67_q rfl rfl (trap_spec _ I) (fun v I1 C1 _ hv => False.elim hv) (fun v I1 C1 _ hv => ?_)
                                                                                              obtain ⟨hv1, hv2, hv3⟩ := hv
                                                                                              have hv2 := hv2.symm
                                                                                              subst hv1; subst hv2; subst hv3
                                                                                              refine WE.then_panic ?_
                                                                                              refine WE.block_panic ?_
                                                                                              refine WE.then_panic ?_
                                                                                              refine WE.pick [3, 4, 1, 5, 6] rfl rfl ?_
                                                                                              refine WE.perm (fun w hs => hs.join5) ?_
                                                                                              have hth : (takeH m.heap i.n.toNat).2.2 ≠ 0 := by rw [hnk]; assumption
                                                                                              have hsame := takeH_bad hth
                                                                                              rw [hnk] at hsame
                                                                                              refine WE.panicE ?_
                                                                                              rw [hsame]
                                                                                              exact ⟨5, (doM_22 (by assumption)).trans (if_neg hth), rfl, rfl, ⟨_, _, _, bh, Aw, kw, Ac, kc, Ai, ki, Ap, kp⟩, Cw, Cc, Cp, ⟨hcode0, hW, hC, hP, hIn, hInN, hInL⟩, rfl⟩
                                                                                            )
                                                                                          · try simp at h28
                                                                                            try (exfalso; omega)
                                                                                            all_goals (
                                                                                              refine WC.skip ?_
                                                                                              refine WE.then_normal ?_
                                                                                              refine WC.region ?_
                                                                                              refine WL.move rfl rfl ?_
                                                                                              refine WL.move rfl rfl ?_
                                                                                              refine WL.nilCheck rfl rfl ?_
                                                                                              refine WL.store_reg 2 (r := i.r) (rs := m.regs) rfl rfl rfl tS2_q rfl hrl ⟨hr0, hr1⟩ rfl ?_
                                                                                              refine WL.nil ?_
                                                                                              refine WE.block_normal ?_
                                                                                              refine WE.then_normal ?_
                                                                                              refine WC.region ?_
                                                                                              refine WL.move rfl rfl ?_
                                                                                              refine WL.move rfl rfl ?_
                                                                                              refine WL.nilCheck rfl rfl ?_
                                                                                              refine WL.fieldAddr rfl tF69_4_q rfl ?_
                                                                                              refine WL.store_mc 2 rfl rfl rfl rfl tS3_q rfl (by show (ints _).length = 16; rw [ints_len]; first | exact hrl | exact hrl2 | (rw [List.length_set]; exact hrl)) rfl (mcs22 (by show (ints _).length = 16; rw [ints_len]; first | exact hrl | exact hrl2 | (rw [List.length_set]; exact hrl))) rfl ?_
                                                                                              refine WL.nil ?_
                                                                                              have hth : (takeH m.heap i.n.toNat).2.2 = 0 := by rw [hnk]; assumption
                                                                                              rw [← hnk]
                                                                                              refine WE.pick [2, 3, 0, 4, 5] rfl rfl ?_
                                                                                              refine WE.perm (fun w hs => hs.join5) ?_
                                                                                              refine WE.endE rfl .nil rfl ?_
                                                                                              exact ⟨_, (doM_22 (by assumption)).trans (if_pos hth), rfl, ⟨_, _, _, bh, Aw, kw, Ac, kc, Ai, ki, Ap, kp⟩, Cw, Cc, Cp, ⟨hcode0, hW, hC, hP, hIn, hInN, hInL⟩, rfl⟩
                                                                                            )
                                                                                        )
                                                                                      · try simp at h27
                                                                                        try (exfalso; omega)
                                                                                        all_goals (
                                                                                          refine WC.seq ?_
                                                                                          refine WC.region ?_
                                                                                          refine WL.arith rfl rfl rfl rfl ?_
                                                                                          refine WL.assign rfl rfl ?_
                                                                                          refine WL.nil ?_
                                                                                          refine WE.then_normal ?_
                                                                                          refine WC.condT rfl (fun h29 => ?_) (fun h29 => ?_)
                                                                                          · try simp at h29
                                                                                            try (exfalso; omega)
                                                                                            all_goals (
                                                                                              refine WC.region ?_
                                                                                              have hn7 := withinS hi (.inr (by assumption))
                                                                                              refine WL.move rfl rfl ?_
                                                                                              refine WL.move rfl rfl ?_
                                                                                              refine WL.fieldAddr rfl tF75_4_q rfl ?_
                                                                                              refine WL.load_own 0 rfl rfl tA2_q rfl rfl ?_
                                                                                              refine WL.pick [1, 2, 3, 0, 4, 5] rfl rfl ?_
                                                                                              refine WL.perm (fun _ hs => hs.join3) ?_
                                                                                              refine WL.callS (dd := some 261) okF68_q rfl rfl (drop_spec c hw.may.shapes (nz m.words + 1) (mvOf ⟨.slice A1 c.shapes.length q1, .slice A2 c.fns.length q2, .slice (some ⟨bi, oi, none⟩) c.list.length q3, bh, Aw, kw, Ac, kc, Ai, ki, Ap, kp⟩ c.main m) m.words m.heap Aw kw Cw bm Em bh Eh (regG m i.a) i.n I (dropM c m.words m.heap (regG m i.a) i.n) hn7.1 hn7.2 (dropM_some _ _ hw.w).1 hw.w (by show (ints _).length = 16; rw [ints_len]; first | exact hrl | exact hrl2 | (rw [List.length_set]; exact hrl)) rfl hcode0.s1 hW) (fun v2 I2 C2 _ hv => ?_)
                                                                                              obtain ⟨hI2, A2', k2', Cw2', rfl, hS2'⟩ := hv
                                                                                              have hI2 := hI2.symm
                                                                                              subst hI2
                                                                                              refine WL.perm (fun _ hs => hs.part3) ?_
                                                                                              refine WL.nil ?_
                                                                                              refine WE.block_normal ?_
                                                                                              refine WE.then_normal ?_
                                                                                              refine WC.region ?_
                                                                                              refine WL.move rfl rfl ?_
                                                                                              refine WL.move rfl rfl ?_
                                                                                              refine WL.nilCheck rfl rfl ?_
                                                                                              refine WL.fieldAddr rfl tF69_4_q rfl ?_
                                                                                              refine WL.store_mc 0 rfl rfl rfl rfl tS3_q rfl (by show (ints _).length = 16; rw [ints_len]; first | exact hrl | exact hrl2 | (rw [List.length_set]; exact hrl)) rfl (mcs22 (by show (ints _).length = 16; rw [ints_len]; first | exact hrl | exact hrl2 | (rw [List.length_set]; exact hrl))) rfl ?_
                                                                                              refine WL.nil ?_
                                                                                              refine WE.pick [0, 1, 2, 4, 5] rfl rfl ?_
                                                                                              refine WE.perm (fun w hs => hs.join5) ?_
                                                                                              refine WE.endE rfl .nil rfl ?_
                                                                                              exact ⟨_, (doM_23 (by assumption)), rfl, ⟨_, _, _, bh, A2', k2', Ac, kc, Ai, ki, Ap, kp⟩, Cw2', Cc, Cp, ⟨hcode0, hS2', hC, hP, hIn, hInN, hInL⟩, rfl⟩
                                                                                            )
                                                                                          · try simp at h29
                                                                                            try (exfalso; omega)
                                                                                            all_goals (
                                                                                              refine WC.seq ?_
                                                                                              refine WC.region ?_
                                                                                              refine WL.arith rfl rfl rfl rfl ?_
                                                                                              refine WL.assign rfl rfl ?_
                                                                                              refine WL.nil ?_
                                                                                              refine WE.then_normal ?_
                                                                                              refine WC.condT rfl (fun h30 => ?_) (fun h30 => ?_)
                                                                                              · try simp at h30
                                                                                                try (exfalso; omega)
                                                                                                all_goals (
                                                                                                  refine WC.seq ?_
                                                                                                  refine WC.seq ?_
                                                                                                  refine WC.region ?_
                                                                                                  refine WL.move rfl rfl ?_
                                                                                                  refine WL.nilCheck rfl rfl ?_
                                                                                                  refine WL.fieldAddr rfl tF69_8_q rfl ?_
                                                                                                  refine WL.load_own 1 rfl rfl tA27_q (mc26 hr) rfl ?_
                                                                                                  refine WL.len_slice rfl tE27_q rfl ?_
                                                                                                  refine WL.arith rfl rfl rfl rfl ?_
                                                                                                  refine WL.nil ?_
                                                                                                  refine WE.then_normal ?_
                                                                                                  refine WC.condT rfl (fun h31 => ?_) (fun h31 => ?_)
                                                                                                  · try simp at h31
                                                                                                    try (exfalso; omega)
                                                                                                    all_goals (
                                                                                                      refine WC.region ?_
                                                                                                      refine WL.perm (fun _ hs => hs.nilTop) ?_
                                                                                                      refine WL.callE (dd := some 270) okF67_q rfl rfl (trap_spec _ I) (fun v I1 C1 _ hv => False.elim hv) (fun v I1 C1 _ hv => ?_)
                                                                                                      obtain ⟨hv1, hv2, hv3⟩ := hv
                                                                                                      have hv2 := hv2.symm
                                                                                                      subst hv1; subst hv2; subst hv3
                                                                                                      refine WE.then_panic ?_
                                                                                                      refine WE.block_panic ?_
                                                                                                      refine WE.then_panic ?_
                                                                                                      refine WE.pick [2, 3, 4, 5, 6] rfl rfl ?_
                                                                                                      refine WE.perm (fun w hs => hs.join5) ?_
                                                                                                      have hnil : m.input = [] := by first | assumption | exact List.length_eq_zero_iff.1 (by omega)
                                                                                                      refine WE.panicE ?_
                                                                                                      exact ⟨3, (by rw [doM_24 (by assumption), hnil]), rfl, rfl, ⟨_, _, _, bh, Aw, kw, Ac, kc, Ai, ki, Ap, kp⟩, Cw, Cc, Cp, ⟨hcode0, hW, hC, hP, hIn, hInN, hInL⟩, rfl⟩
                                                                                                    )
                                                                                                  · try simp at h31
                                                                                                    try (exfalso; omega)
                                                                                                    all_goals (
                                                                                                      refine WC.skip ?_
                                                                                                      refine WE.then_normal ?_
                                                                                                      refine WC.region_staged (g := 17) (e := 14) [2, 3, 4, 5] tMixed_q rfl rfl (fun hI0 => ?_)
                                                                                                      refine WS.own (k := 0) rfl (by kernel_rfl) (by kernel_rfl) (by kernel_rfl) rfl calm_no ?_
                                                                                                      obtain ⟨v, rr, hin⟩ : ∃ v rr, m.input = v :: rr := by first | exact List.exists_cons_of_ne_nil (by assumption) | exact List.exists_cons_of_length_pos (by omega)
                                                                                                      obtain ⟨bx, ox, rfl, hrx⟩ : ∃ bx ox, Ai = some ⟨bx, ox, none⟩ ∧ I.row bx ox (ints m.input) := by
                                                                                                        rcases hIn with h | h | ⟨b, c1, E, fz, off, h1, h2, h3⟩
                                                                                                        · exact h
                                                                                                        · rw [hin] at h; cases h
                                                                                                        · cases h2
                                                                                                      have hilen : m.input.length = rr.length + 1 := by rw [hin]; rfl
                                                                                                      have hrx0 : I.cell? ⟨bx, ox + (0 : Int).toNat * 1, none⟩ = some (.int .i64 v) := hrx 0 _ (by rw [hin]; rfl)
                                                                                                      have hIn2 : SrcO I [] (if ki = 1 then some ⟨bx, ox, none⟩ else some ⟨bx, ox + 1 * 1, none⟩) (ints rr) := by
                                                                                                        split
                                                                                                        · have : rr = [] := List.length_eq_zero_iff.1 (by omega)
                                                                                                          subst this; exact .inr (.inl rfl)
                                                                                                        · exact .inl ⟨bx, ox + 1 * 1, rfl, fun j u hj => by rw [Nat.one_mul, Nat.add_assoc, Nat.add_comm 1 j]; exact hrx (j + 1) u (by rw [hin]; simpa [ints] using hj)⟩
                                                                                                      have hInN2 : (if ki = 1 then some (⟨bx, ox, none⟩ : Addr) else some ⟨bx, ox + 1 * 1, none⟩) = none → rr = [] := fun e => by split at e <;> cases e
                                                                                                      have hInL2 : rr.length ≤ ki - 1 := by omega
                                                                                                      refine WL.move rfl rfl ?_
                                                                                                      refine WL.nil ?_
                                                                                                      refine WS.onward ?_
                                                                                                      refine WS.float (k := 1) rfl (by kernel_rfl) (by kernel_rfl) (by kernel_rfl) rfl calm_no ?_
                                                                                                      refine WL.move rfl rfl ?_
                                                                                                      refine WL.nil ?_
                                                                                                      refine WS.onwardF ?_
                                                                                                      refine WS.own (k := 2) rfl (by kernel_rfl) (by kernel_rfl) (by kernel_rfl) rfl calm_no ?_
                                                                                                      refine WL.move rfl rfl ?_
                                                                                                      refine WL.nil ?_
                                                                                                      refine WS.onward ?_
                                                                                                      refine WS.own (k := 3) rfl (by kernel_rfl) (by kernel_rfl) (by kernel_rfl) rfl calm_no ?_
                                                                                                      refine WL.nilCheck rfl rfl ?_
                                                                                                      refine WL.nil ?_
                                                                                                      refine WS.onward ?_
                                                                                                      refine WS.own (k := 4) rfl (by kernel_rfl) (by kernel_rfl) (by kernel_rfl) rfl calm_no ?_
                                                                                                      refine WL.fieldAddr rfl tF69_8_q rfl ?_
                                                                                                      refine WL.nil ?_
                                                                                                      refine WS.onward ?_
                                                                                                      refine WS.own (k := 5) rfl (by kernel_rfl) (by kernel_rfl) (by kernel_rfl) rfl calm_no ?_
                                                                                                      refine WL.load_own 1 rfl rfl tA27_q (mc26 hr) rfl ?_
                                                                                                      refine WL.nil ?_
                                                                                                      refine WS.onward ?_
                                                                                                      refine WS.own (k := 6) rfl (by kernel_rfl) (by kernel_rfl) (by kernel_rfl) rfl calm_no ?_
                                                                                                      refine WL.indexAddr rfl rfl tE27_q tS2_q rfl (by first | omega) ?_
                                                                                                      refine WL.nil ?_
                                                                                                      refine WS.onward ?_
                                                                                                      refine WS.own (k := 7) rfl (by kernel_rfl) (by kernel_rfl) (by kernel_rfl) rfl calm_no ?_
                                                                                                      refine WL.load_imm rfl tA2_q rfl (by first | exact hrows 1 _ rfl | exact hrx0) ?_
                                                                                                      refine WL.nil ?_
                                                                                                      refine WS.onward ?_
                                                                                                      refine WS.own (k := 8) rfl (by kernel_rfl) (by kernel_rfl) (by kernel_rfl) rfl calm_no ?_
                                                                                                      refine WL.move rfl rfl ?_
                                                                                                      refine WL.nil ?_
                                                                                                      refine WS.onward ?_
                                                                                                      refine WS.own (k := 9) rfl (by kernel_rfl) (by kernel_rfl) (by kernel_rfl) rfl calm_no ?_
                                                                                                      refine WL.nilCheck rfl rfl ?_
                                                                                                      refine WL.nil ?_
                                                                                                      refine WS.onward ?_
                                                                                                      refine WS.own (k := 10) rfl (by kernel_rfl) (by kernel_rfl) (by kernel_rfl) rfl calm_no ?_
                                                                                                      refine WL.fieldAddr rfl tF69_8_q rfl ?_
                                                                                                      refine WL.nil ?_
                                                                                                      refine WS.onward ?_
                                                                                                      refine WS.own (k := 11) rfl (by kernel_rfl) (by kernel_rfl) (by kernel_rfl) rfl calm_no ?_
                                                                                                      refine WL.load_own 1 rfl rfl tA27_q (mc26 hr) rfl ?_
                                                                                                      refine WL.nil ?_
                                                                                                      refine WS.onward ?_
                                                                                                      refine WS.float (k := 12) rfl (by kernel_rfl) (by kernel_rfl) (by kernel_rfl) rfl calm_no ?_
                                                                                                      refine WL.slice_lo rfl rfl tE27_q tS2_q rfl (by omega) ?_
                                                                                                      refine WL.reslot 283 rfl (show sliceV (some ⟨bx, ox, none⟩) ki 1 (1 : Int).toNat m.input.length = .slice (if ki = 1 then some ⟨bx, ox, none⟩ else some ⟨bx, ox + 1 * 1, none⟩) rr.length (ki - 1) by unfold sliceV; rw [hilen]; split <;> simp_all [add_at]) ?_
                                                                                                      refine WL.nil ?_
                                                                                                      refine WS.onwardF ?_
                                                                                                      refine WS.own (k := 13) rfl (by kernel_rfl) (by kernel_rfl) (by kernel_rfl) rfl calm_no ?_
                                                                                                      refine WL.nilCheck rfl rfl ?_
                                                                                                      refine WL.nil ?_
                                                                                                      refine WS.onward ?_
                                                                                                      refine WS.touch (k := 14) rfl (by kernel_rfl) rfl ?_
                                                                                                      refine WL.store_reg 1 (r := i.r) (rs := m.regs) rfl rfl rfl tS2_q rfl hrl ⟨hr0, hr1⟩ rfl ?_
                                                                                                      refine WL.nil ?_
                                                                                                      refine WS.next (e' := 17) rfl (.inr (pickW (ks := [2, 3, 4, 5]) rfl rfl (Mem.le_refl _) hI0)) ?_
                                                                                                      refine WS.own (k := 15) rfl (by kernel_rfl) (by kernel_rfl) (by kernel_rfl) rfl calm_no ?_
                                                                                                      refine WL.nilCheck rfl rfl ?_
                                                                                                      refine WL.nil ?_
                                                                                                      refine WS.onward ?_
                                                                                                      refine WS.own (k := 16) rfl (by kernel_rfl) (by kernel_rfl) (by kernel_rfl) rfl calm_no ?_
                                                                                                      refine WL.fieldAddr rfl tF69_8_q rfl ?_
                                                                                                      refine WL.nil ?_
                                                                                                      refine WS.onward ?_
                                                                                                      refine WS.touch (k := 17) rfl (by kernel_rfl) rfl ?_
                                                                                                      refine WL.store_mc 1 rfl rfl rfl rfl tS27_q rfl (by show (ints _).length = 16; rw [ints_len]; first | exact hrl | exact hrl2 | (rw [List.length_set]; exact hrl)) rfl (mcs26 (by show (ints _).length = 16; rw [ints_len]; first | exact hrl | exact hrl2 | (rw [List.length_set]; exact hrl))) rfl ?_
                                                                                                      refine WL.nil ?_
                                                                                                      refine WS.next (e' := 18) rfl (.inl rfl) ?_
                                                                                                      refine WS.doneC (by kernel_rfl) ?_
                                                                                                      refine WE.block_normal ?_
                                                                                                      refine WE.then_normal ?_
                                                                                                      refine WC.region ?_
                                                                                                      refine WL.move rfl rfl ?_
                                                                                                      refine WL.move rfl rfl ?_
                                                                                                      refine WL.nilCheck rfl rfl ?_
                                                                                                      refine WL.fieldAddr rfl tF69_4_q rfl ?_
                                                                                                      refine WL.store_mc 1 rfl rfl rfl rfl tS3_q rfl (by show (ints _).length = 16; rw [ints_len]; first | exact hrl | exact hrl2 | (rw [List.length_set]; exact hrl)) rfl (mcs22 (by show (ints _).length = 16; rw [ints_len]; first | exact hrl | exact hrl2 | (rw [List.length_set]; exact hrl))) rfl ?_
                                                                                                      refine WL.nil ?_
                                                                                                      have hd24 : doM c m i = .ok { m with regs := m.regs.set i.r.toNat v, input := rr, at_ := m.at_ + 1 } := by rw [doM_24 (by assumption), hin]
                                                                                                      refine WE.pick [1, 2, 3, 4, 5] rfl rfl ?_
                                                                                                      refine WE.perm (fun w hs => hs.join5) ?_
                                                                                                      refine WE.endE rfl .nil rfl ?_
                                                                                                      exact ⟨_, hd24, rfl, ⟨_, _, _, bh, Aw, kw, Ac, kc, (if ki = 1 then some ⟨bx, ox, none⟩ else some ⟨bx, ox + 1 * 1, none⟩), (ki - 1), Ap, kp⟩, Cw, Cc, Cp, ⟨hcode0, hW, hC, hP, hIn2, hInN2, hInL2⟩, rfl⟩
                                                                                                    )
                                                                                                )
                                                                                              · try simp at h30
                                                                                                try (exfalso; omega)
                                                                                                all_goals (
                                                                                                  refine WC.seq ?_
                                                                                                  refine WC.region ?_
                                                                                                  refine WL.arith rfl rfl rfl rfl ?_
                                                                                                  refine WL.assign rfl rfl ?_
                                                                                                  refine WL.nil ?_
                                                                                                  refine WE.then_normal ?_
                                                                                                  refine WC.condT rfl (fun h32 => ?_) (fun h32 => ?_)
                                                                                                  · try simp at h32
                                                                                                    try (exfalso; omega)
                                                                                                    all_goals (
                                                                                                      refine WC.region ?_
                                                                                                      refine WL.move rfl rfl ?_
                                                                                                      refine WL.move rfl rfl ?_
                                                                                                      refine WL.nilCheck rfl rfl ?_
                                                                                                      refine WL.fieldAddr rfl tF69_9_q rfl ?_
                                                                                                      refine WL.fieldAddr rfl tF34_4_q rfl ?_
                                                                                                      refine WL.load_own 1 rfl rfl tA27_q (mc31 hr) rfl ?_
                                                                                                      refine WL.move rfl rfl ?_
                                                                                                      refine WL.buildSlice_lit rfl tE27_q tS2_q tZ2_q rfl rfl rfl rfl rfl rfl rfl (fun b33 => ?_)
                                                                                                      refine WL.append_own 6 rfl rfl tE27_q tS2_q tB2_q tZ2_q rfl rfl rfl (fun C' => rfl) hP (by rw [ints_len, Nat.mul_one]) (.slice tE27_q (AtW.lit (k := 0) rfl) rfl rfl) (by omega) (by omega) rfl (fun A' cap' C' hC' => ?_)
                                                                                                      refine WL.nilCheck rfl rfl ?_
                                                                                                      refine WL.fieldAddr rfl tF69_9_q rfl ?_
                                                                                                      refine WL.fieldAddr rfl tF34_4_q rfl ?_
                                                                                                      refine WL.store_mc 2 rfl rfl rfl rfl tS27_q rfl hr rfl (mcs31 hr) rfl ?_
                                                                                                      refine WL.nil ?_
                                                                                                      refine WE.block_normal ?_
                                                                                                      refine WE.then_normal ?_
                                                                                                      refine WC.region ?_
                                                                                                      refine WL.move rfl rfl ?_
                                                                                                      refine WL.move rfl rfl ?_
                                                                                                      refine WL.nilCheck rfl rfl ?_
                                                                                                      refine WL.fieldAddr rfl tF69_4_q rfl ?_
                                                                                                      refine WL.store_mc 2 rfl rfl rfl rfl tS3_q rfl (by show (ints _).length = 16; rw [ints_len]; first | exact hrl | exact hrl2 | (rw [List.length_set]; exact hrl)) rfl (mcs22 (by show (ints _).length = 16; rw [ints_len]; first | exact hrl | exact hrl2 | (rw [List.length_set]; exact hrl))) rfl ?_
                                                                                                      refine WL.nil ?_
                                                                                                      have hP2 : SlO 1 (ints (m.printed ++ [regG m i.a])) A' cap' C' := by rw [ints_app]; exact hC'
                                                                                                      have hpl : (m.printed ++ [regG m i.a]).length = m.printed.length + 1 := by simp
                                                                                                      refine WE.pick [2, 3, 4, 5, 6] rfl rfl ?_
                                                                                                      refine WE.perm (fun w hs => hs.join5) ?_
                                                                                                      refine WE.endE rfl .nil rfl ?_
                                                                                                      refine ⟨_, (doM_25 (by assumption)), rfl, ⟨_, _, _, bh, Aw, kw, Ac, kc, Ai, ki, A', cap'⟩, Cw, Cc, C', ⟨hcode0, hW, hC, hP2, hIn, hInN, hInL⟩, ?_⟩
                                                                                                      simp only [mvOf, hpl]
                                                                                                      rfl
                                                                                                    )
                                                                                                  · try simp at h32
                                                                                                    try (exfalso; omega)
                                                                                                    all_goals (
                                                                                                      refine WC.skip ?_
                                                                                                      refine WE.block_normal ?_
                                                                                                      refine WE.then_normal ?_
                                                                                                      refine WC.region ?_
                                                                                                      refine WL.move rfl rfl ?_
                                                                                                      refine WL.move rfl rfl ?_
                                                                                                      refine WL.nilCheck rfl rfl ?_
                                                                                                      refine WL.fieldAddr rfl tF69_4_q rfl ?_
                                                                                                      refine WL.store_mc 1 rfl rfl rfl rfl tS3_q rfl (by show (ints _).length = 16; rw [ints_len]; first | exact hrl | exact hrl2 | (rw [List.length_set]; exact hrl)) rfl (mcs22 (by show (ints _).length = 16; rw [ints_len]; first | exact hrl | exact hrl2 | (rw [List.length_set]; exact hrl))) rfl ?_
                                                                                                      refine WL.nil ?_
                                                                                                      exfalso; omega
                                                                                                    )
                                                                                                )
                                                                                            )
                                                                                        )
                                                                                    )
                                                                                )
                                                                            )
                                                                        )
                                                                    )
                                                                )
                                                            )
                                                        )
                                                    )
                                                )
                                            )
                                        )
                                    )
                                )
                            )
                        )
                    )
                )
            )
        )
    )
end Go.Proofs.YtddkkmdbolgnlaaDoor.Fw
