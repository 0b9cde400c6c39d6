/- A part of the proof: steps of the walk and laws that the claim's theorem rests on; each lemma states its own conditions. -/
import Derived.Test.YtddkkmdbolgnlaaDoorT19
import Derived.Test.YtddkkmdbolgnlaaDoorWalkF
import Derived.Test.YtddkkmdbolgnlaaDoorProg
set_option linter.unusedVariables false
set_option linter.unusedSimpArgs false
namespace Go.Proofs.YtddkkmdbolgnlaaDoor.Fw
open Go.Proofs
set_option maxRecDepth 100000
set_option linter.unusedVariables false
set_option linter.unusedSimpArgs false
theorem tIf20_r : ifaceT Tryd.prog 20 = true := by kernel_rfl
theorem tNi92_r : notIface Tryd.prog 92 = true := by kernel_rfl
theorem tZ92_r : zeroT Tryd.prog 92 = some (.agg [(.int .u8 0)].toArray) := by kernel_rfl
theorem tS92_r : szT Tryd.prog 92 = some 1 := by kernel_rfl
theorem tMixed_r : Tryd.prog.follows .mixedOrders = true := by kernel_rfl
theorem tA38_r : aggT Tryd.prog 38 = some false := by kernel_rfl
theorem tF92_0_r : offT Tryd.prog 92 0 = some 0 := by kernel_rfl
theorem tA31_r : aggT Tryd.prog 31 = some false := by kernel_rfl
theorem tF69_9_r : offT Tryd.prog 69 9 = some 27 := by kernel_rfl
theorem tF34_0_r : offT Tryd.prog 34 0 = some 0 := by kernel_rfl
theorem tS30_r : szT Tryd.prog 30 = some 1 := by kernel_rfl
theorem tF34_2_r : offT Tryd.prog 34 2 = some 2 := by kernel_rfl
theorem tS31_r : szT Tryd.prog 31 = some 1 := by kernel_rfl
theorem tF69_10_r : offT Tryd.prog 69 10 = some 32 := by kernel_rfl
theorem tA3_r : aggT Tryd.prog 3 = some false := by kernel_rfl
theorem tS3_r : szT Tryd.prog 3 = some 1 := by kernel_rfl
theorem okF38_r : okFn Tryd.prog 38 Tryd.f38 := ⟨Tryd.func38, by kernel_rfl, rfl⟩
theorem okF37_r : okFn Tryd.prog 37 Tryd.f37 := ⟨Tryd.func37, by kernel_rfl, rfl⟩
theorem catch_idle (bz : Nat) (C : Chunk) (I : Mem) : SpecD Tryd.prog 37 [.pointer (some ⟨bz, 0, none⟩)] I C .returning .returning (fun I' C' => I' = I ∧ C' = C) := by
  refine SpecD.recover Tryd.func37 rfl rfl rfl (.inl ⟨rfl, rfl, rfl⟩) fun Γ => ?_
  show WC _ _ _ _ [] [(4, _), (0, _)] _ _ _
  refine WC.block ?_
  refine WC.seq ?_
  refine WC.region ?_
  refine WL.nil_eqnil rfl tIf20_r rfl ?_
  refine WL.nil ?_
  refine WE.then_normal ?_
  refine WC.cond_true rfl ?_
  refine WC.region ?_
  refine WL.assign rfl rfl ?_
  refine WL.nil ?_
  refine WE.block_normal ?_
  refine WE.dpost rfl ?_
  exact ⟨rfl, rfl⟩
theorem catch_stop (c : CodeD) (m : MachD) (t : Int) (bz T1 bm Em Eh : Nat) (C : Chunk) (I : Mem) (hM : MC I c m bm Em Eh C) (hrl : m.regs.length = 16) : SpecD Tryd.prog 37 [.pointer (some ⟨bz, 0, none⟩)] I ([(bz, .cells [.pointer (some ⟨bm, 0, none⟩)].toArray T1 (0, 0))] ++ C) (.panicking (pan (stopV 92 t))) (.panicking [{ v := stopV 92 t, recovered := true }]) (fun I' C' => I' = I ∧ ∃ C2, C' = [(bz, .cells [.pointer (some ⟨bm, 0, none⟩)].toArray T1 (0, 0))] ++ C2 ∧ MC I c { m with kind := 3, trap := t } bm Em Eh C2) := by
  obtain ⟨h, Cw, Cc, Cp, hM5, rfl⟩ := hM
  obtain ⟨v1, v2, v3, bh, Aw, kw, Ac, kc, Ai, ki, Ap, kp⟩ := h
  obtain ⟨hcode, hW, hC, hP, hIn, hInN, hInL⟩ := hM5
  dsimp only at hcode hW hC hP hIn hInN hInL
  have hcode0 := hcode
  obtain ⟨⟨A1, q1, rfl, hm1, hc1, hS1⟩, ⟨A2, q2, rfl, hm2, hc2, hS2⟩, ⟨A3, q3, rfl, hm3, hc3, hS3⟩, hmain⟩ := hcode
  generalize hmh : (⟨.slice A1 c.shapes.length q1, .slice A2 c.fns.length q2, .slice A3 c.list.length q3, bh, Aw, kw, Ac, kc, Ai, ki, Ap, kp⟩ : MH) = hh
  have hr : (mvOf hh c.main m).regs.length = 16 := by rw [mvOf, ints_len]; exact hrl
  subst hmh
  refine SpecD.recover Tryd.func37 rfl rfl rfl (.inr ⟨[], rfl, rfl⟩) fun Γ => ?_
  show WC _ _ _ _ [] [(4, _), (0, _)] _ _ _
  refine WC.regroup [[(bz, .cells [.pointer (some ⟨bm, 0, none⟩)].toArray T1 (0, 0))], mcObj bm Em (mvOf ⟨.slice A1 c.shapes.length q1, .slice A2 c.fns.length q2, .slice A3 c.list.length q3, bh, Aw, kw, Ac, kc, Ai, ki, Ap, kp⟩ c.main m), Cw, hpObj bh Eh m.heap, Cc, Cp] (by simp [mcObj]) ?_
  refine WC.block ?_
  refine WC.seq ?_
  refine WC.region ?_
  refine WL.iface_eqnil rfl tIf20_r rfl ?_
  refine WL.nil ?_
  refine WE.then_normal ?_
  refine WC.cond_false rfl ?_
  refine WC.seq ?_
  refine WC.region ?_
  refine WL.assert_yes rfl tNi92_r rfl ?_
  refine WL.extract rfl rfl rfl ?_
  refine WL.extract rfl rfl rfl ?_
  refine WL.nil ?_
  refine WE.then_normal ?_
  refine WC.cond_true rfl ?_
  refine WC.seq ?_
  refine WC.region ?_
  refine WL.alloc tZ92_r rfl rfl (fun b1 => ?_)
  refine WL.store 0 rfl rfl rfl rfl tS92_r rfl rfl rfl rfl rfl ?_
  refine WL.nil ?_
  refine WE.then_normal ?_
  refine WC.region_staged (g := 11) (e := 7) [0, 1, 3, 4, 5, 6] tMixed_r rfl rfl (fun hI0 => ?_)
  refine WS.own (k := 0) rfl (by kernel_rfl) (by kernel_rfl) (by kernel_rfl) rfl calm_no ?_
  refine WL.load_own 1 rfl rfl tA38_r rfl rfl ?_
  refine WL.nil ?_
  refine WS.onward ?_
  refine WS.own (k := 1) rfl (by kernel_rfl) (by kernel_rfl) (by kernel_rfl) rfl calm_no ?_
  refine WL.load_own 1 rfl rfl tA38_r rfl rfl ?_
  refine WL.nil ?_
  refine WS.onward ?_
  refine WS.float (k := 2) rfl (by kernel_rfl) (by kernel_rfl) (by kernel_rfl) rfl calm_no ?_
  refine WL.fieldAddr rfl tF92_0_r rfl ?_
  refine WL.nil ?_
  refine WS.onwardF ?_
  refine WS.float (k := 3) rfl (by kernel_rfl) (by kernel_rfl) (by kernel_rfl) rfl calm_no ?_
  refine WL.load_own 0 rfl rfl tA31_r rfl rfl ?_
  refine WL.nil ?_
  refine WS.onwardF ?_
  refine WS.own (k := 4) rfl (by kernel_rfl) (by kernel_rfl) (by kernel_rfl) rfl calm_no ?_
  refine WL.nilCheck rfl rfl ?_
  refine WL.nil ?_
  refine WS.onward ?_
  refine WS.own (k := 5) rfl (by kernel_rfl) (by kernel_rfl) (by kernel_rfl) rfl calm_no ?_
  refine WL.fieldAddr rfl tF69_9_r rfl ?_
  refine WL.nil ?_
  refine WS.onward ?_
  refine WS.own (k := 6) rfl (by kernel_rfl) (by kernel_rfl) (by kernel_rfl) rfl calm_no ?_
  refine WL.fieldAddr rfl tF34_0_r rfl ?_
  refine WL.nil ?_
  refine WS.onward ?_
  refine WS.touch (k := 7) rfl (by kernel_rfl) rfl ?_
  refine WL.store_mc 2 rfl rfl rfl rfl tS30_r rfl hr rfl (mcs27 hr) rfl ?_
  refine WL.nil ?_
  refine WS.next (e' := 11) rfl (.inr (pickW (ks := [0, 1, 3, 4, 5, 6]) rfl rfl (Mem.le_refl _) hI0)) ?_
  refine WS.own (k := 8) rfl (by kernel_rfl) (by kernel_rfl) (by kernel_rfl) rfl calm_no ?_
  refine WL.nilCheck rfl rfl ?_
  refine WL.nil ?_
  refine WS.onward ?_
  refine WS.own (k := 9) rfl (by kernel_rfl) (by kernel_rfl) (by kernel_rfl) rfl calm_no ?_
  refine WL.fieldAddr rfl tF69_9_r rfl ?_
  refine WL.nil ?_
  refine WS.onward ?_
  refine WS.own (k := 10) rfl (by kernel_rfl) (by kernel_rfl) (by kernel_rfl) rfl calm_no ?_
  refine WL.fieldAddr rfl tF34_2_r rfl ?_
  refine WL.nil ?_
  refine WS.onward ?_
  refine WS.touch (k := 11) rfl (by kernel_rfl) rfl ?_
  refine WL.store_mc 2 rfl rfl rfl rfl tS31_r rfl hr rfl (mcs29 hr) rfl ?_
  refine WL.nil ?_
  refine WS.next (e' := 12) rfl (.inl rfl) ?_
  refine WS.doneC (by kernel_rfl) ?_
  refine WE.block_normal ?_
  refine WE.pick [1, 2, 3, 4, 5, 6] rfl rfl ?_
  refine WE.perm (fun w hs => hs.join6) ?_
  refine WE.dpost rfl ?_
  exact ⟨rfl, _, rfl, ⟨_, _, _, bh, Aw, kw, Ac, kc, Ai, ki, Ap, kp⟩, Cw, Cc, Cp, ⟨hcode0, hW, hC, hP, hIn, hInN, hInL⟩, rfl⟩
theorem step_spec (c : CodeD) (m : MachD) (bm Em Eh : Nat) (C : Chunk) (I : Mem) (hM : MC I c m bm Em Eh C) (hw : WFm c m) (hk : m.kind = 1) (hst : m.steps ≤ 16777216) : Spec Tryd.prog 27 [.pointer (some ⟨bm, 0, none⟩)] I C (fun _ I' C' => I' = I ∧ ∃ D C2, C' = D ++ C2 ∧ MC I c (stepM c m) bm Em Eh C2) := by
  obtain ⟨h, Cw, Cc, Cp, hM5, rfl⟩ := hM
  obtain ⟨v1, v2, v3, bh, Aw, kw, Ac, kc, Ai, ki, Ap, kp⟩ := h
  obtain ⟨hcode, hW, hC, hP, hIn, hInN, hInL⟩ := hM5
  dsimp only at hcode hW hC hP hIn hInN hInL
  have hcode0 := hcode
  obtain ⟨⟨A1, q1, rfl, hm1, hc1, hS1⟩, ⟨A2, q2, rfl, hm2, hc2, hS2⟩, ⟨A3, q3, rfl, hm3, hc3, hS3⟩, hmain⟩ := hcode
  generalize hmh : (⟨.slice A1 c.shapes.length q1, .slice A2 c.fns.length q2, .slice A3 c.list.length q3, bh, Aw, kw, Ac, kc, Ai, ki, Ap, kp⟩ : MH) = hh
  have hr : (mvOf hh c.main m).regs.length = 16 := by rw [mvOf, ints_len]; exact hw.regs
  subst hmh
  have hpl := hw.plen
  have hs0 := hw.steps0
  have hw1 := hw.more
  obtain ⟨i, f0, hi⟩ := hw.ins hk
  refine Spec.introD Tryd.func27 rfl rfl fun Γ => ?_
  show WC _ _ _ _ [] [(0, _)] _ _ _
  refine WC.regroup [mcObj bm Em (mvOf ⟨.slice A1 c.shapes.length q1, .slice A2 c.fns.length q2, .slice A3 c.list.length q3, bh, Aw, kw, Ac, kc, Ai, ki, Ap, kp⟩ c.main m), Cw, hpObj bh Eh m.heap, Cc, Cp] (by simp) ?_
  refine WC.seq ?_
  refine WC.region ?_
  refine WL.box rfl rfl rfl (fun b1 => ?_)
  refine WL.nil ?_
  refine WE.then_normal ?_
  refine WC.seq ?_
  refine WC.region ?_
  refine WL.makeFunc rfl rfl rfl ?_
  refine WL.deferV rfl ?_
  refine WL.nil ?_
  refine WE.then_normal ?_
  refine WC.seq ?_
  refine WC.region ?_
  refine WL.load_own 0 rfl rfl tA38_r rfl rfl ?_
  refine WL.nilCheck rfl rfl ?_
  refine WL.fieldAddr rfl tF69_10_r rfl ?_
  refine WL.load_own 1 rfl rfl tA3_r (mc32 hr) rfl ?_
  first | refine WL.add rfl rfl (by omega) rfl ?_ | refine WL.arith rfl rfl rfl rfl ?_
  refine WL.nilCheck rfl rfl ?_
  refine WL.fieldAddr rfl tF69_10_r rfl ?_
  refine WL.store_mc 1 rfl rfl rfl rfl tS3_r rfl hr rfl (mcs32 hr) rfl ?_
  refine WL.nil ?_
  refine WE.then_normal ?_
  refine WC.region ?_
  refine WL.load_own 0 rfl rfl tA38_r rfl rfl ?_
  refine WL.pick [1, 2, 3, 4, 5, 0] rfl rfl ?_
  refine WL.perm (fun _ hs => hs.join5) ?_
  have hM1 : MC I c { m with steps := m.steps + 1 } bm Em Eh _ := ⟨⟨.slice A1 c.shapes.length q1, .slice A2 c.fns.length q2, .slice A3 c.list.length q3, bh, Aw, kw, Ac, kc, Ai, ki, Ap, kp⟩, Cw, Cc, Cp, ⟨hcode0, hW, hC, hP, hIn, hInN, hInL⟩, rfl⟩
  refine WL.callE (dd := some 11) okF38_r rfl rfl (do_spec c { m with steps := m.steps + 1 } i f0 bm Em Eh _ I hM1 hw1 hk (by show m.printed.length ≤ _; omega) (hi.more _)) (fun v1 I1 C1 _ hv => ?_) (fun v1 I1 C1 _ hv => ?_)
  rotate_left
  · obtain ⟨t, hdo, hv1, hv2, hMe⟩ := hv
    have hv2 := hv2.symm
    subst hv1; subst hv2
    refine WE.pick [1, 0] rfl rfl ?_
    refine WE.perm (fun w hs => hs.join) ?_
    refine WE.deferP (cap := [.pointer (some ⟨b1, 0, none⟩)]) okF37_r (catch_stop c _ t b1 _ bm Em Eh _ I hMe hw.regs) rfl rfl (fun I' C' _ hr => ?_)
    obtain ⟨rfl, C2, rfl, hM2⟩ := hr
    exact ⟨rfl, _, _, rfl, by rw [stepM, hi.instrOf, hdo]; exact hM2⟩
  obtain ⟨m', hdo, hv2, hMe⟩ := hv
  have hv2 := hv2.symm
  subst hv2
  refine WL.nil ?_
  refine WE.pick [1, 0] rfl rfl ?_
  refine WE.perm (fun w hs => hs.join) ?_
  refine WE.deferN (cap := [.pointer (some ⟨b1, 0, none⟩)]) okF37_r (catch_idle b1 _ I) rfl rfl (fun I' C' _ hr => ?_)
  obtain ⟨rfl, rfl⟩ := hr
  exact ⟨rfl, _, _, rfl, by rw [stepM, hi.instrOf, hdo]; exact hMe⟩
end Go.Proofs.YtddkkmdbolgnlaaDoor.Fw
