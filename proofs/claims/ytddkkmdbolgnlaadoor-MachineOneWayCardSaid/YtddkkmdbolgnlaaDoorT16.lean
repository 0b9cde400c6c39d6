/- A part of the proof: steps of the walk and laws that the claim's theorem rests on; each lemma states its own conditions. -/
import Derived.Test.YtddkkmdbolgnlaaDoorT15
import Derived.Test.YtddkkmdbolgnlaaDoorWalkE
import Derived.Test.YtddkkmdbolgnlaaDoorProg
set_option linter.unusedVariables false
set_option linter.unusedSimpArgs false
namespace Go.Proofs.YtddkkmdbolgnlaaDoor.Fw
open Go.Proofs
set_option maxRecDepth 100000
set_option linter.unusedVariables false
set_option linter.unusedSimpArgs false
theorem tF69_7_e : offT Tryd.prog 69 7 = some 25 := by kernel_rfl
theorem tA67_e : aggT Tryd.prog 67 = some false := by kernel_rfl
theorem tE67_e : sliceT Tryd.prog 67 = some 72 := by kernel_rfl
theorem tF69_9_e : offT Tryd.prog 69 9 = some 27 := by kernel_rfl
theorem tF34_0_e : offT Tryd.prog 34 0 = some 0 := by kernel_rfl
theorem tS30_e : szT Tryd.prog 30 = some 1 := by kernel_rfl
theorem tMixed_e : Tryd.prog.follows .mixedOrders = true := by kernel_rfl
theorem tF69_6_e : offT Tryd.prog 69 6 = some 24 := by kernel_rfl
theorem tA3_e : aggT Tryd.prog 3 = some false := by kernel_rfl
theorem tF69_0_e : offT Tryd.prog 69 0 = some 0 := by kernel_rfl
theorem tF26_1_e : offT Tryd.prog 26 1 = some 1 := by kernel_rfl
theorem tA23_e : aggT Tryd.prog 23 = some false := by kernel_rfl
theorem tF26_3_e : offT Tryd.prog 26 3 = some 3 := by kernel_rfl
theorem tE23_e : sliceT Tryd.prog 23 = some 64 := by kernel_rfl
theorem tS64_e : szT Tryd.prog 64 = some 3 := by kernel_rfl
theorem tF64_2_e : offT Tryd.prog 64 2 = some 2 := by kernel_rfl
theorem okF31_e : okFn Tryd.prog 31 Tryd.f31 := ⟨Tryd.func31, by kernel_rfl, rfl⟩
theorem tF34_1_e : offT Tryd.prog 34 1 = some 1 := by kernel_rfl
theorem tS2_e : szT Tryd.prog 2 = some 1 := by kernel_rfl
theorem tS72_e : szT Tryd.prog 72 = some 3 := by kernel_rfl
theorem tZ72_e : zeroT Tryd.prog 72 = some (.agg [(.int .i64 0), (.int .i64 0), (.int .i64 0)].toArray) := by kernel_rfl
theorem tS67_e : szT Tryd.prog 67 = some 1 := by kernel_rfl
theorem tF72_1_e : offT Tryd.prog 72 1 = some 1 := by kernel_rfl
theorem tF72_2_e : offT Tryd.prog 72 2 = some 2 := by kernel_rfl
theorem tS3_e : szT Tryd.prog 3 = some 1 := by kernel_rfl
theorem tF69_5_e : offT Tryd.prog 69 5 = some 23 := by kernel_rfl
theorem tZ66_e : zeroT Tryd.prog 66 = some (.agg [(.int .i64 0), (.int .i64 0), (.int .i64 0), (.int .i64 0), (.int .i64 0), (.int .i64 0), (.int .i64 0), (.int .i64 0), (.int .i64 0), (.int .i64 0), (.int .i64 0), (.int .i64 0), (.int .i64 0), (.int .i64 0), (.int .i64 0), (.int .i64 0)].toArray) := by kernel_rfl
theorem tAr66_e : arrT Tryd.prog 66 = some (16, 2) := by kernel_rfl
theorem tF69_3_e : offT Tryd.prog 69 3 = some 6 := by kernel_rfl
theorem tF72_0_e : offT Tryd.prog 72 0 = some 0 := by kernel_rfl
theorem tA72_e : aggT Tryd.prog 72 = some true := by kernel_rfl
theorem tS66_e : szT Tryd.prog 66 = some 16 := by kernel_rfl
theorem leave_spec (c : CodeD) (m : MachD) (bm Em Eh : Nat) (C : Chunk) (I : Mem) (hM : MC I c m bm Em Eh C) (hw : WFm c m) : Spec Tryd.prog 65 [.pointer (some ⟨bm, 0, none⟩)] I C (fun v I' C' => v = .int .i64 (leaveN m) ∧ I' = I ∧ MC I c (leaveM c m) bm Em Eh C') := by
  obtain ⟨h, Cw, Cc, Cp, hM5, rfl⟩ := hM
  obtain ⟨v1, v2, v3, bh, Aw, kw, Ac, kc, Ai, ki, Ap, kp⟩ := h
  obtain ⟨hcode, hW, hC, hP, hIn, hInN, hInL⟩ := hM5
  dsimp only at hcode hW hC hP hIn hInN hInL
  have hcode0 := hcode
  obtain ⟨⟨A1, q1, rfl, hm1, hc1, hS1⟩, ⟨A2, q2, rfl, hm2, hc2, hS2⟩, ⟨A3, q3, rfl, hm3, hc3, hS3⟩, hmain⟩ := hcode
  generalize hmh : (⟨.slice A1 c.shapes.length q1, .slice A2 c.fns.length q2, .slice A3 c.list.length q3, bh, Aw, kw, Ac, kc, Ai, ki, Ap, kp⟩ : MH) = hh
  have hr : (mvOf hh c.main m).regs.length = 16 := by rw [mvOf, ints_len]; exact hw.regs
  subst hmh
  have hcl := hw.clen
  have hf0 := hw.frame0
  have hf1 := hw.frame1
  have hm0 := hw.may.wf.m0
  have hm1' := hw.may.wf.m1
  refine Spec.intro Tryd.func65 rfl rfl fun Γ => ?_
  show WC _ _ _ _ [] [(0, _)] _ _ _
  refine WC.regroup [mcObj bm Em (mvOf ⟨.slice A1 c.shapes.length q1, .slice A2 c.fns.length q2, .slice A3 c.list.length q3, bh, Aw, kw, Ac, kc, Ai, ki, Ap, kp⟩ c.main m), Cw, hpObj bh Eh m.heap, Cc, Cp] (by simp) ?_
  refine WC.seq ?_
  refine WC.region ?_
  refine WL.assign rfl rfl ?_
  refine WL.nil ?_
  refine WE.then_normal ?_
  refine WC.seq ?_
  refine WC.region ?_
  refine WL.move rfl rfl ?_
  refine WL.nilCheck rfl rfl ?_
  refine WL.fieldAddr rfl tF69_7_e rfl ?_
  refine WL.load_own 0 rfl rfl tA67_e (mc25 hr) rfl ?_
  refine WL.len_slice rfl tE67_e rfl ?_
  first | refine WL.sub rfl rfl (by omega) rfl ?_ | refine WL.arith rfl rfl rfl rfl ?_
  refine WL.assign rfl rfl ?_
  refine WL.nil ?_
  refine WE.then_normal ?_
  refine WC.seq ?_
  refine WC.seq ?_
  refine WC.region ?_
  refine WL.move rfl rfl ?_
  refine WL.arith rfl rfl rfl rfl ?_
  refine WL.nil ?_
  refine WE.then_normal ?_
  refine WC.condT rfl (fun h1 => ?_) (fun h1 => ?_)
  · try simp at h1
    try (exfalso; omega)
    all_goals (
      refine WC.seq ?_
      refine WC.region ?_
      refine WL.move rfl rfl ?_
      refine WL.nilCheck rfl rfl ?_
      refine WL.fieldAddr rfl tF69_9_e rfl ?_
      refine WL.fieldAddr rfl tF34_0_e rfl ?_
      refine WL.store_mc 0 rfl rfl rfl rfl tS30_e rfl hr rfl (mcs27 hr) rfl ?_
      refine WL.nil ?_
      refine WE.then_normal ?_
      refine WC.seq ?_
      refine WC.region_tail 24 tMixed_e (by kernel_rfl) rfl rfl ?_
      refine WL.move rfl rfl ?_
      refine WL.move rfl rfl ?_
      refine WL.move rfl rfl ?_
      refine WL.nilCheck rfl rfl ?_
      refine WL.fieldAddr rfl tF69_6_e rfl ?_
      refine WL.load_own 0 rfl rfl tA3_e (mc24 hr) rfl ?_
      refine WL.move rfl rfl ?_
      refine WL.nilCheck rfl rfl ?_
      refine WL.fieldAddr rfl tF69_0_e rfl ?_
      refine WL.fieldAddr rfl tF26_1_e rfl ?_
      refine WL.load_own 0 rfl rfl tA23_e mc1 rfl ?_
      refine WL.move rfl rfl ?_
      refine WL.nilCheck rfl rfl ?_
      refine WL.fieldAddr rfl tF69_0_e rfl ?_
      refine WL.fieldAddr rfl tF26_3_e rfl ?_
      refine WL.load_own 0 rfl rfl tA3_e mc3 rfl ?_
      obtain ⟨f0, hf0⟩ : ∃ x, c.fns[c.main.toNat]? = some x := ⟨_, List.getElem?_eq_getElem (by omega)⟩
      have hf0w := hw.may.wf.fn _ f0 hf0
      obtain ⟨bf, of_, uf, rfl, hul, hrowf, rfl, hfr1, hfr2, hfr3⟩ := hS2 _ f0 hf0
      refine WL.indexAddr rfl rfl tE23_e tS64_e rfl (by first | omega | exact (show 0 ≤ ((m.calls.length : Int) - 1) ∧ ((m.calls.length : Int) - 1) ≤ ((kc : Nat) : Int) by omega)) ?_
      refine WL.fieldAddr rfl tF64_2_e rfl ?_
      refine WL.load_imm rfl tA3_e rfl (by first | exact hrowf 2 _ rfl) ?_
      first | refine WL.add rfl rfl (by omega) rfl ?_ | refine WL.arith rfl rfl rfl rfl ?_
      refine WL.regroup [mcObj bm Em _ ++ Cw, hpObj bh Eh m.heap, Cc, Cp] (by simp [mcObj]; rfl) ?_
      refine WL.callQ 0 okF31_e rfl rfl rfl (word27_spec _ m.words Aw kw Cw bm Em _ I rfl hW) ?_
      refine WL.regroup [mcObj bm Em _, Cw, hpObj bh Eh m.heap, Cc, Cp] (by simp [mcObj]; rfl) ?_
      refine WL.nilCheck rfl rfl ?_
      refine WL.fieldAddr rfl tF69_9_e rfl ?_
      refine WL.fieldAddr rfl tF34_1_e rfl ?_
      refine WL.nil ?_
      refine WE.tail ?_
      refine WL.store_mc 0 rfl rfl rfl rfl tS2_e rfl hr rfl (mcs28 hr) rfl ?_
      refine WL.nil ?_
      refine WE.then_normal ?_
      refine WC.seq ?_
      refine WC.region ?_
      refine WL.assign rfl rfl ?_
      refine WL.nil ?_
      refine WE.then_normal ?_
      refine WC.ret ?_
      refine WE.then_ret ?_
      have hnil : m.calls = [] := List.length_eq_zero_iff.1 (by omega)
      have hpar : paramsOf c = f0.params := by simp [paramsOf, hf0]
      have hlv : leaveM c m = { m with kind := 2, answer := wordM m.words (m.frame + f0.params) } := by simp [leaveM, hnil, hpar]
      have hln : leaveN m = 0 := by simp [leaveN, hnil]
      refine WE.perm (fun w hs => hs.join5) ?_
      refine WE.retCr rfl (.cons (.tmp rfl) .nil) rfl ?_
      rw [hlv, hln]
      exact ⟨rfl, rfl, ⟨_, _, _, bh, Aw, kw, Ac, kc, Ai, ki, Ap, kp⟩, Cw, Cc, Cp, ⟨hcode0, hW, hC, hP, hIn, hInN, hInL⟩, rfl⟩
    )
  · try simp at h1
    try (exfalso; omega)
    all_goals (
      refine WC.skip ?_
      refine WE.then_normal ?_
      refine WC.seq ?_
      refine WC.region ?_
      refine WL.move rfl rfl ?_
      refine WL.nilCheck rfl rfl ?_
      refine WL.fieldAddr rfl tF69_7_e rfl ?_
      refine WL.load_own 0 rfl rfl tA67_e (mc25 hr) rfl ?_
      have hlk : m.calls.length * 3 ≤ kc * 3 := by have := hC.len_le; rw [callCells_len] at this; exact this
      obtain ⟨b, pad, E, rfl, rfl, hpad⟩ := hC.ne (by have := hC.len_le; rw [callCells_len] at this; omega)
      obtain ⟨y, hy⟩ : ∃ y, m.calls[((m.calls.length : Int) - 1).toNat]? = some y := ⟨_, List.getElem?_eq_getElem (by omega)⟩
      refine WL.move rfl rfl ?_
      refine WL.indexAddr rfl rfl tE67_e tS72_e rfl (by first | omega | exact (show 0 ≤ ((m.calls.length : Int) - 1) ∧ ((m.calls.length : Int) - 1) ≤ ((kc : Nat) : Int) by omega)) ?_
      refine WL.load_own_agg 3 rfl rfl tA72_e tS72_e (callCells_get hy pad) rfl ?_
      refine WL.alloc tZ72_e rfl rfl (fun b2 => ?_)
      refine WL.store 0 rfl rfl rfl rfl tS72_e rfl rfl rfl rfl rfl ?_
      refine WL.nil ?_
      refine WE.then_normal ?_
      refine WC.seq ?_
      refine WC.region ?_
      refine WL.move rfl rfl ?_
      refine WL.move rfl rfl ?_
      refine WL.nilCheck rfl rfl ?_
      refine WL.fieldAddr rfl tF69_7_e rfl ?_
      refine WL.load_own 1 rfl rfl tA67_e (mc25 hr) rfl ?_
      refine WL.move rfl rfl ?_
      refine WL.slice_to rfl rfl tE67_e tS72_e rfl (by first | omega | exact (show 0 ≤ ((m.calls.length : Int) - 1) ∧ ((m.calls.length : Int) - 1) ≤ ((kc : Nat) : Int) by omega)) ?_
      refine WL.nilCheck rfl rfl ?_
      refine WL.fieldAddr rfl tF69_7_e rfl ?_
      refine WL.store_mc 1 rfl rfl rfl rfl tS67_e rfl hr rfl (mcs25 hr) rfl ?_
      refine WL.nil ?_
      refine WE.then_normal ?_
      refine WC.seq ?_
      refine WC.region_staged (g := 11) (e := 8) [0, 2, 3, 4, 5] tMixed_e rfl rfl (fun hI0 => ?_)
      refine WS.own (k := 0) rfl (by kernel_rfl) (by kernel_rfl) (by kernel_rfl) rfl calm_no ?_
      refine WL.move rfl rfl ?_
      refine WL.nil ?_
      refine WS.onward ?_
      refine WS.float (k := 1) rfl (by kernel_rfl) (by kernel_rfl) (by kernel_rfl) rfl calm_no ?_
      refine WL.move rfl rfl ?_
      refine WL.nil ?_
      refine WS.onwardF ?_
      refine WS.own (k := 2) rfl (by kernel_rfl) (by kernel_rfl) (by kernel_rfl) rfl calm_no ?_
      refine WL.fieldAddr rfl tF72_1_e rfl ?_
      refine WL.nil ?_
      refine WS.onward ?_
      refine WS.own (k := 3) rfl (by kernel_rfl) (by kernel_rfl) (by kernel_rfl) rfl calm_no ?_
      refine WL.load_own 0 rfl rfl tA3_e rfl rfl ?_
      refine WL.nil ?_
      refine WS.onward ?_
      refine WS.float (k := 4) rfl (by kernel_rfl) (by kernel_rfl) (by kernel_rfl) rfl calm_no ?_
      refine WL.fieldAddr rfl tF72_2_e rfl ?_
      refine WL.nil ?_
      refine WS.onwardF ?_
      refine WS.float (k := 5) rfl (by kernel_rfl) (by kernel_rfl) (by kernel_rfl) rfl calm_no ?_
      refine WL.load_own 0 rfl rfl tA3_e rfl rfl ?_
      refine WL.nil ?_
      refine WS.onwardF ?_
      refine WS.own (k := 6) rfl (by kernel_rfl) (by kernel_rfl) (by kernel_rfl) rfl calm_no ?_
      refine WL.nilCheck rfl rfl ?_
      refine WL.nil ?_
      refine WS.onward ?_
      refine WS.own (k := 7) rfl (by kernel_rfl) (by kernel_rfl) (by kernel_rfl) rfl calm_no ?_
      refine WL.fieldAddr rfl tF69_6_e rfl ?_
      refine WL.nil ?_
      refine WS.onward ?_
      refine WS.touch (k := 8) rfl (by kernel_rfl) rfl ?_
      refine WL.store_mc 1 rfl rfl rfl rfl tS3_e rfl hr rfl (mcs24 hr) rfl ?_
      refine WL.nil ?_
      refine WS.next (e' := 11) rfl (.inr (pickW (ks := [0, 2, 3, 4, 5]) rfl rfl (Mem.le_refl _) hI0)) ?_
      refine WS.own (k := 9) rfl (by kernel_rfl) (by kernel_rfl) (by kernel_rfl) rfl calm_no ?_
      refine WL.nilCheck rfl rfl ?_
      refine WL.nil ?_
      refine WS.onward ?_
      refine WS.own (k := 10) rfl (by kernel_rfl) (by kernel_rfl) (by kernel_rfl) rfl calm_no ?_
      refine WL.fieldAddr rfl tF69_5_e rfl ?_
      refine WL.nil ?_
      refine WS.onward ?_
      refine WS.touch (k := 11) rfl (by kernel_rfl) rfl ?_
      refine WL.store_mc 1 rfl rfl rfl rfl tS3_e rfl hr rfl (mcs23 hr) rfl ?_
      refine WL.nil ?_
      refine WS.next (e' := 12) rfl (.inl rfl) ?_
      refine WS.doneC (by kernel_rfl) ?_
      refine WE.then_normal ?_
      refine WC.seq ?_
      refine WC.region ?_
      refine WL.move rfl rfl ?_
      refine WL.build_arr rfl tZ66_e tAr66_e tS2_e rfl rfl rfl ?_
      refine WL.nilCheck rfl rfl ?_
      refine WL.fieldAddr rfl tF69_3_e rfl ?_
      refine WL.store_mcs 1 rfl rfl rfl rfl tS66_e rfl rfl hr rfl (mcs_regs rfl hr) rfl ?_
      refine WL.nil ?_
      refine WE.then_normal ?_
      refine WC.seq ?_
      refine WC.region ?_
      refine WL.fieldAddr rfl tF72_0_e rfl ?_
      refine WL.load_own 0 rfl rfl tA3_e rfl rfl ?_
      refine WL.assign rfl rfl ?_
      refine WL.nil ?_
      refine WE.then_normal ?_
      refine WC.ret ?_
      have hy' : m.calls.getLast? = some y := by rw [List.getLast?_eq_getElem?, ← hy]; congr 1; omega
      have hlv : leaveM c m = { m with calls := m.calls.dropLast, frame := y.2.1, fn := y.2.2, regs := regs0 } := by simp [leaveM, hy']
      have hln : leaveN m = y.1 := by simp [leaveN, hy']
      have hne : m.calls ≠ [] := by intro e; rw [e] at hy'; simp at hy'
      have hyl : m.calls.getLast hne = y := by rw [List.getLast?_eq_some_getLast hne] at hy'; injection hy'
      have hdl := List.dropLast_concat_getLast hne
      rw [hyl] at hdl
      have hC2 : SlO 3 (callCells m.calls.dropLast) (some ⟨b, 0, none⟩) kc _ := SlO.less (cs2 := callRow y) (by rw [← callCells_snoc, hdl]; exact hC)
      have hq : ((m.calls.length : Int) - 1).toNat = m.calls.dropLast.length := by rw [List.length_dropLast]; omega
      have e : sliceV (some ⟨b, 0, none⟩) kc 3 0 (((m.calls.length : Int) - 1).toNat) = .slice (some ⟨b, 0, none⟩) m.calls.dropLast.length kc := by rw [hC.cut0, hq]
      refine WE.pick [1, 2, 3, 4, 5] rfl rfl ?_
      refine WE.perm (fun w hs => hs.join5) ?_
      refine WE.retCr rfl (.cons (.tmp rfl) .nil) rfl ?_
      rw [hlv, hln]
      refine ⟨rfl, rfl, ⟨_, _, _, bh, Aw, kw, some ⟨b, 0, none⟩, kc, Ai, ki, Ap, kp⟩, Cw, _, Cp, ⟨hcode0, hW, hC2, hP, hIn, hInN, hInL⟩, ?_⟩
      exact congrArg (fun cv => mcObj bm Em { mvOf ⟨.slice A1 c.shapes.length q1, .slice A2 c.fns.length q2, .slice A3 c.list.length q3, bh, Aw, kw, some ⟨b, 0, none⟩, kc, Ai, ki, Ap, kp⟩ c.main { m with calls := m.calls.dropLast, frame := y.2.1, fn := y.2.2, regs := regs0 } with cv := cv } ++ (Cw ++ (hpObj bh Eh m.heap ++ (_ ++ Cp)))) e
    )
end Go.Proofs.YtddkkmdbolgnlaaDoor.Fw
