/- A part of the proof: steps of the walk and laws that the claim's theorem rests on; each lemma states its own conditions. -/
import Derived.Test.YtddkkmdbolgnlaaDoorT22
import Derived.Test.YtddkkmdbolgnlaaDoorWalkG
import Derived.Test.YtddkkmdbolgnlaaDoorProg
set_option linter.unusedVariables false
set_option linter.unusedSimpArgs false
namespace Go.Proofs.YtddkkmdbolgnlaaDoor.Fw
open Go.Proofs
set_option maxRecDepth 100000
set_option linter.unusedVariables false
set_option linter.unusedSimpArgs false
theorem okF26_x : okFn Tryd.prog 26 Tryd.f26 := ⟨Tryd.func26, by kernel_rfl, rfl⟩
theorem tA69_x : aggT Tryd.prog 69 = some true := by kernel_rfl
theorem tS69_x : szT Tryd.prog 69 = some 33 := by kernel_rfl
theorem tZ69_x : zeroT Tryd.prog 69 = some (.agg [(.slice none 0 0), (.slice none 0 0), (.slice none 0 0), (.int .i64 0), (.pointer none), (.slice none 0 0), (.int .i64 0), (.int .i64 0), (.int .i64 0), (.int .i64 0), (.int .i64 0), (.int .i64 0), (.int .i64 0), (.int .i64 0), (.int .i64 0), (.int .i64 0), (.int .i64 0), (.int .i64 0), (.int .i64 0), (.int .i64 0), (.int .i64 0), (.int .i64 0), (.int .i64 0), (.int .i64 0), (.int .i64 0), (.slice none 0 0), (.slice none 0 0), (.int .u8 0), (.int .i64 0), (.int .u8 0), (.int .u8 0), (.slice none 0 0), (.int .i64 0)].toArray) := by kernel_rfl
theorem tF69_1_x : offT Tryd.prog 69 1 = some 4 := by kernel_rfl
theorem tA61_x : aggT Tryd.prog 61 = some false := by kernel_rfl
theorem okF28_x : okFn Tryd.prog 28 Tryd.f28 := ⟨Tryd.func28, by kernel_rfl, rfl⟩
theorem tS61_x : szT Tryd.prog 61 = some 1 := by kernel_rfl
theorem tF69_2_x : offT Tryd.prog 69 2 = some 5 := by kernel_rfl
theorem tA27_x : aggT Tryd.prog 27 = some false := by kernel_rfl
theorem tE27_x : sliceT Tryd.prog 27 = some 2 := by kernel_rfl
theorem tS2_x : szT Tryd.prog 2 = some 1 := by kernel_rfl
theorem tB2_x : bytesT Tryd.prog 2 = some 8 := by kernel_rfl
theorem tZ2_x : zeroT Tryd.prog 2 = some (.int .i64 0) := by kernel_rfl
theorem tS27_x : szT Tryd.prog 27 = some 1 := by kernel_rfl
theorem tMixed_x : Tryd.prog.follows .mixedOrders = true := by kernel_rfl
theorem tF69_7_x : offT Tryd.prog 69 7 = some 25 := by kernel_rfl
theorem tA67_x : aggT Tryd.prog 67 = some false := by kernel_rfl
theorem tF69_8_x : offT Tryd.prog 69 8 = some 26 := by kernel_rfl
theorem tF69_9_x : offT Tryd.prog 69 9 = some 27 := by kernel_rfl
theorem tF34_4_x : offT Tryd.prog 34 4 = some 4 := by kernel_rfl
theorem okF29_x : okFn Tryd.prog 29 Tryd.f29 := ⟨Tryd.func29, by kernel_rfl, rfl⟩
theorem okF25_x : okFn Tryd.prog 25 Tryd.f25 := ⟨Tryd.func25, by kernel_rfl, rfl⟩
theorem tS67_x : szT Tryd.prog 67 = some 1 := by kernel_rfl
theorem tA26_x : aggT Tryd.prog 26 = some true := by kernel_rfl
theorem tS26_x : szT Tryd.prog 26 = some 4 := by kernel_rfl
theorem okF21_x : okFn Tryd.prog 21 Tryd.f21 := ⟨Tryd.func21, by kernel_rfl, rfl⟩
theorem okF22_x : okFn Tryd.prog 22 Tryd.f22 := ⟨Tryd.func22, by kernel_rfl, rfl⟩
theorem tF26_1_x : offT Tryd.prog 26 1 = some 1 := by kernel_rfl
theorem tA23_x : aggT Tryd.prog 23 = some false := by kernel_rfl
theorem tF26_3_x : offT Tryd.prog 26 3 = some 3 := by kernel_rfl
theorem tA3_x : aggT Tryd.prog 3 = some false := by kernel_rfl
theorem tE23_x : sliceT Tryd.prog 23 = some 64 := by kernel_rfl
theorem tS64_x : szT Tryd.prog 64 = some 3 := by kernel_rfl
theorem tF64_0_x : offT Tryd.prog 64 0 = some 0 := by kernel_rfl
theorem okF23_x : okFn Tryd.prog 23 Tryd.f23 := ⟨Tryd.func23, by kernel_rfl, rfl⟩
theorem okF24_x : okFn Tryd.prog 24 Tryd.f24 := ⟨Tryd.func24, by kernel_rfl, rfl⟩
theorem tSt69_x : structT Tryd.prog 69 = some [(0, 4), (4, 1), (5, 1), (6, 16), (22, 1), (23, 1), (24, 1), (25, 1), (26, 1), (27, 5), (32, 1)] := by kernel_rfl
theorem tF34_0_x : offT Tryd.prog 34 0 = some 0 := by kernel_rfl
theorem tS30_x : szT Tryd.prog 30 = some 1 := by kernel_rfl
theorem tZ34_x : zeroT Tryd.prog 34 = some (.agg [(.int .u8 0), (.int .i64 0), (.int .u8 0), (.int .u8 0), (.slice none 0 0)].toArray) := by kernel_rfl
theorem tSt34_x : structT Tryd.prog 34 = some [(0, 1), (1, 1), (2, 1), (3, 1), (4, 1)] := by kernel_rfl
theorem tS34_x : szT Tryd.prog 34 = some 5 := by kernel_rfl
theorem okF7_x : okFn Tryd.prog 7 Tryd.f7 := ⟨Tryd.func7, by kernel_rfl, rfl⟩
theorem okF10_x : okFn Tryd.prog 10 Tryd.f10 := ⟨Tryd.func10, by kernel_rfl, rfl⟩
theorem tA34_x : aggT Tryd.prog 34 = some true := by kernel_rfl
theorem copyM_spec (c : CodeD) (m : MachD) (bm Em Eh : Nat) (C : Chunk) (I : Mem) (hM : MC I c m bm Em Eh C) (hw : WFm c m) (hpl : m.printed.length ≤ 16777216) : Spec Tryd.prog 11 [.pointer (some ⟨bm, 0, none⟩)] I C (fun v I' C' => I.le I' ∧ ∃ b D, v = .pointer (some ⟨b, 0, none⟩) ∧ C' = D ++ C ∧ MC I' c m b 69 89 D) := by
  obtain ⟨h, Cw, Cc, Cp, hM5, rfl⟩ := id hM
  have hr : (mvOf h c.main m).regs.length = 16 := by rw [mvOf, ints_len]; exact hw.regs
  have hwl := hw.wlen
  have hcl := hw.clen
  have hil := hw.ilen
  refine Spec.intro Tryd.func11 rfl rfl fun Γ => ?_
  show WC _ _ _ _ [] [(0, _)] _ _ _
  refine WC.regroup [mcObj bm Em (mvOf h c.main m), Cw, hpObj h.bh Eh m.heap, Cc, Cp] (by simp) ?_
  refine WC.seq ?_
  refine WC.region ?_
  refine WL.assign rfl rfl ?_
  refine WL.nil ?_
  refine WE.then_normal ?_
  refine WC.seq ?_
  refine WC.seq ?_
  refine WC.region ?_
  refine WL.move rfl rfl ?_
  refine WL.callQ 0 okF26_x rfl rfl rfl (there_spec (mvOf h c.main m) bm Em h.bh I hr rfl) ?_
  refine WL.not rfl rfl ?_
  refine WL.nil ?_
  refine WE.then_normal ?_
  refine WC.condT rfl (fun h1 => ?_) (fun h1 => ?_)
  · try simp at h1
    try (exfalso; simp at *; done)
    all_goals (
      refine WC.seq ?_
      refine WC.region ?_
      refine WL.assign rfl rfl ?_
      refine WL.nil ?_
      refine WE.then_normal ?_
      refine WC.ret ?_
      refine WE.then_ret ?_
      skip
    )
  · try simp at h1
    try (exfalso; simp at *; done)
    all_goals (
      refine WC.skip ?_
      refine WE.then_normal ?_
      refine WC.seq ?_
      refine WC.region ?_
      refine WL.move rfl rfl ?_
      refine WL.nilCheck rfl rfl ?_
      refine WL.load_own_agg 0 rfl rfl tA69_x tS69_x (mc_take hr) rfl ?_
      refine WL.alloc tZ69_x rfl rfl (fun bn => ?_)
      refine WL.store_full 0 rfl rfl rfl tS69_x (mc_len hr) (mvOf_one hM5.code) rfl rfl ?_
      refine WL.nil ?_
      refine WE.then_normal ?_
      refine WC.seq ?_
      refine WC.region ?_
      refine WL.move rfl rfl ?_
      refine WL.nilCheck rfl rfl ?_
      refine WL.fieldAddr rfl tF69_1_x rfl ?_
      refine WL.load_own 1 rfl rfl tA61_x mc4 rfl ?_
      refine WL.pick [3, 0, 1, 2, 4, 5] rfl rfl ?_
      refine WL.callS (dd := some 14) okF28_x rfl rfl (heapCopy_spec m.heap h.bh Eh I hw.heap) (fun v1 I1 C1 _ hv => ?_)
      obtain ⟨hI1, bhn, rfl, rfl⟩ := hv
      have hI1 := hI1.symm
      subst hI1
      refine WL.regroup [hpObj bhn 89 m.heap, hpObj h.bh Eh m.heap, mcObj bn 69 (mvOf h c.main m), mcObj bm Em (mvOf h c.main m), Cw, Cc, Cp] (by simp [hpObj, mcObj]) ?_
      refine WL.fieldAddr rfl tF69_1_x rfl ?_
      refine WL.store_mc 2 rfl rfl rfl rfl tS61_x rfl hr rfl (mcs4 hr) rfl ?_
      refine WL.nil ?_
      refine WE.then_normal ?_
      refine WC.seq ?_
      refine WC.region ?_
      refine WL.move rfl rfl ?_
      refine WL.nilCheck rfl rfl ?_
      refine WL.fieldAddr rfl tF69_2_x rfl ?_
      refine WL.load_own 3 rfl rfl tA27_x mc5 rfl ?_
      refine WL.len_slice rfl tE27_x rfl ?_
      refine WL.makeSlice rfl tE27_x tS2_x tB2_x tZ2_x rfl rfl rfl (by omega) (by omega) rfl (fun bw => ?_)
      refine WL.fieldAddr rfl tF69_2_x rfl ?_
      refine WL.store_mc 3 rfl rfl rfl rfl tS27_x rfl (by show (ints _).length = 16; rw [ints_len]; exact hw.regs) rfl (mcs5 (by show (ints _).length = 16; rw [ints_len]; exact hw.regs)) rfl ?_
      refine WL.nil ?_
      refine WE.then_normal ?_
      refine WC.seq ?_
      refine WC.region_tail 6 tMixed_x (by kernel_rfl) rfl rfl ?_
      refine WL.fieldAddr rfl tF69_2_x rfl ?_
      refine WL.load_own 3 rfl rfl tA27_x mc5 rfl ?_
      refine WL.move rfl rfl ?_
      refine WL.nilCheck rfl rfl ?_
      refine WL.fieldAddr rfl tF69_2_x rfl ?_
      refine WL.load_own 4 rfl rfl tA27_x mc5 rfl ?_
      refine WL.nil ?_
      refine WE.tail ?_
      refine WL.copy_sl 0 5 rfl rfl tE27_x tS2_x rfl rfl hM5.words (zeros_int _) (ints_len _) (ints_one _) rfl rfl ?_
      refine WL.nil ?_
      refine WE.then_normal ?_
      refine WC.seq ?_
      refine WC.region_staged (g := 15) (e := 4) [0, 1, 2, 4, 5] tMixed_x rfl rfl (fun hI0 => ?_)
      refine WS.own (k := 0) rfl (by kernel_rfl) (by kernel_rfl) (by kernel_rfl) rfl calm_no ?_
      refine WL.move rfl rfl ?_
      refine WL.nil ?_
      refine WS.onward ?_
      refine WS.own (k := 1) rfl (by kernel_rfl) (by kernel_rfl) (by kernel_rfl) rfl calm_no ?_
      refine WL.nilCheck rfl rfl ?_
      refine WL.nil ?_
      refine WS.onward ?_
      refine WS.own (k := 2) rfl (by kernel_rfl) (by kernel_rfl) (by kernel_rfl) rfl calm_no ?_
      refine WL.fieldAddr rfl tF69_7_x rfl ?_
      refine WL.nil ?_
      refine WS.onward ?_
      refine WS.own (k := 3) rfl (by kernel_rfl) (by kernel_rfl) (by kernel_rfl) rfl calm_no ?_
      refine WL.load_own 4 rfl rfl tA67_x (mc25 hr) rfl ?_
      refine WL.nil ?_
      refine WS.onward ?_
      refine WS.float (k := 5) rfl (by kernel_rfl) (by kernel_rfl) (by kernel_rfl) rfl calm_no ?_
      refine WL.move rfl rfl ?_
      refine WL.nil ?_
      refine WS.onwardF ?_
      refine WS.float (k := 6) rfl (by kernel_rfl) (by kernel_rfl) (by kernel_rfl) rfl calm_no ?_
      refine WL.nilCheck rfl rfl ?_
      refine WL.nil ?_
      refine WS.onwardF ?_
      refine WS.float (k := 7) rfl (by kernel_rfl) (by kernel_rfl) (by kernel_rfl) rfl calm_no ?_
      refine WL.fieldAddr rfl tF69_8_x rfl ?_
      refine WL.nil ?_
      refine WS.onwardF ?_
      refine WS.float (k := 8) rfl (by kernel_rfl) (by kernel_rfl) (by kernel_rfl) rfl calm_no ?_
      refine WL.load_own 3 rfl rfl tA27_x (mc26 hr) rfl ?_
      refine WL.nil ?_
      refine WS.onwardF ?_
      refine WS.float (k := 10) rfl (by kernel_rfl) (by kernel_rfl) (by kernel_rfl) rfl calm_no ?_
      refine WL.move rfl rfl ?_
      refine WL.nil ?_
      refine WS.onwardF ?_
      refine WS.float (k := 11) rfl (by kernel_rfl) (by kernel_rfl) (by kernel_rfl) rfl calm_no ?_
      refine WL.nilCheck rfl rfl ?_
      refine WL.nil ?_
      refine WS.onwardF ?_
      refine WS.float (k := 12) rfl (by kernel_rfl) (by kernel_rfl) (by kernel_rfl) rfl calm_no ?_
      refine WL.fieldAddr rfl tF69_9_x rfl ?_
      refine WL.nil ?_
      refine WS.onwardF ?_
      refine WS.float (k := 13) rfl (by kernel_rfl) (by kernel_rfl) (by kernel_rfl) rfl calm_no ?_
      refine WL.fieldAddr rfl tF34_4_x rfl ?_
      refine WL.nil ?_
      refine WS.onwardF ?_
      refine WS.float (k := 14) rfl (by kernel_rfl) (by kernel_rfl) (by kernel_rfl) rfl calm_no ?_
      refine WL.load_own 3 rfl rfl tA27_x (mc31 hr) rfl ?_
      refine WL.nil ?_
      refine WS.onwardF ?_
      refine WS.touch (k := 4) rfl (by kernel_rfl) rfl ?_
      refine WL.pick [6, 0, 1, 2, 3, 4, 5, 7] rfl rfl ?_
      refine WL.callS (dd := some 34) okF29_x rfl rfl (clone_call I Cc h.Ac m.calls.length h.kc (callCells m.calls) (hM5.calls.srcO I) (callCells_len _) (callCells_one _) (fun e => hM5.calls.nil_callLen e) (by omega) (by omega)) (fun v2 I2 C2 _ hv => ?_)
      obtain ⟨hI2, Acn, kcn, Ccn, rfl, hCn, rfl⟩ := hv
      have hI2 := hI2.symm
      subst hI2
      refine WL.perm (fun _ hs => hs.part) ?_
      refine WL.nil ?_
      refine WS.next (e' := 9) rfl (.inr (pickW (ks := [2, 3, 4, 6, 7]) rfl rfl (Mem.le_refl _) hI0)) ?_
      refine WS.touch (k := 9) rfl (by kernel_rfl) rfl ?_
      refine WL.perm (fun _ hs => hs.nilTop) ?_
      refine WL.callS (dd := some 39) okF25_x rfl rfl (clone_int I [] h.Ai m.input.length h.ki (ints m.input) hM5.input (by rw [ints_len]; omega) (ints_one _) (fun e => by rw [hM5.inNil e]; rfl) (by omega) (by omega)) (fun v3 I3 C3 _ hv => ?_)
      obtain ⟨hI3, Ain, kin, Cin, rfl, hCi, rfl⟩ := hv
      have hI3 := hI3.symm
      subst hI3
      refine WL.perm (fun _ hs => hs.part) ?_
      refine WL.pick [0, 2, 3, 4, 5, 6, 7, 8, 9, 10] rfl rfl ?_
      have hkin := hCi.len_le
      rw [ints_len, Nat.mul_one] at hkin
      have hnin := fun e => hCi.nil_len e
      refine WL.freezeS hCi (fun I4 hI4 hAin => ?_)
      refine WL.nil ?_
      refine WS.next (e' := 15) rfl (.inr (pickW (ks := [2, 3, 4, 6, 7]) rfl rfl hI4 hI0)) ?_
      refine WS.touch (k := 15) rfl (by kernel_rfl) rfl ?_
      refine WL.pick [8, 0, 1, 2, 3, 4, 5, 6, 7] rfl rfl ?_
      refine WL.callS (dd := some 45) okF25_x rfl rfl (clone_int I4 Cp h.Ap m.printed.length h.kp (ints m.printed) (hM5.printed.srcO I4) (by rw [ints_len]; omega) (ints_one _) (fun e => hM5.printed.nil_len e) (by omega) (by omega)) (fun v5 I5 C5 _ hv => ?_)
      obtain ⟨hI5, Apn, kpn, Cpn, rfl, hPn, rfl⟩ := hv
      have hI5 := hI5.symm
      subst hI5
      refine WL.perm (fun _ hs => hs.part) ?_
      refine WL.nil ?_
      refine WS.next (e' := 17) rfl (.inl rfl) ?_
      refine WS.own (k := 16) rfl (by kernel_rfl) (by kernel_rfl) (by kernel_rfl) rfl calm_no ?_
      refine WL.fieldAddr rfl tF69_7_x rfl ?_
      refine WL.nil ?_
      refine WS.onward ?_
      refine WS.touch (k := 17) rfl (by kernel_rfl) rfl ?_
      refine WL.store_mc 7 rfl rfl rfl rfl tS67_x rfl (by show (ints _).length = 16; rw [ints_len]; exact hw.regs) rfl (mcs25 (by show (ints _).length = 16; rw [ints_len]; exact hw.regs)) rfl ?_
      refine WL.nil ?_
      refine WS.next (e' := 19) rfl (.inl rfl) ?_
      refine WS.own (k := 18) rfl (by kernel_rfl) (by kernel_rfl) (by kernel_rfl) rfl calm_no ?_
      refine WL.fieldAddr rfl tF69_8_x rfl ?_
      refine WL.nil ?_
      refine WS.onward ?_
      refine WS.touch (k := 19) rfl (by kernel_rfl) rfl ?_
      refine WL.store_mc 7 rfl rfl rfl rfl tS27_x rfl (by show (ints _).length = 16; rw [ints_len]; exact hw.regs) rfl (mcs26 (by show (ints _).length = 16; rw [ints_len]; exact hw.regs)) rfl ?_
      refine WL.nil ?_
      refine WS.next (e' := 22) rfl (.inl rfl) ?_
      refine WS.own (k := 20) rfl (by kernel_rfl) (by kernel_rfl) (by kernel_rfl) rfl calm_no ?_
      refine WL.fieldAddr rfl tF69_9_x rfl ?_
      refine WL.nil ?_
      refine WS.onward ?_
      refine WS.own (k := 21) rfl (by kernel_rfl) (by kernel_rfl) (by kernel_rfl) rfl calm_no ?_
      refine WL.fieldAddr rfl tF34_4_x rfl ?_
      refine WL.nil ?_
      refine WS.onward ?_
      refine WS.touch (k := 22) rfl (by kernel_rfl) rfl ?_
      refine WL.store_mc 7 rfl rfl rfl rfl tS27_x rfl (by show (ints _).length = 16; rw [ints_len]; exact hw.regs) rfl (mcs31 (by show (ints _).length = 16; rw [ints_len]; exact hw.regs)) rfl ?_
      refine WL.nil ?_
      refine WS.next (e' := 23) rfl (.inl rfl) ?_
      refine WS.doneC (by kernel_rfl) ?_
      refine WE.then_normal ?_
      refine WC.seq ?_
      refine WC.region ?_
      refine WL.assign rfl rfl ?_
      refine WL.nil ?_
      refine WE.then_normal ?_
      refine WC.ret ?_
      refine WE.pick [7, 4, 5, 2, 0, 8, 9, 6, 3, 1] rfl rfl ?_
      refine WE.perm (fun w hs => hs.join5) ?_
      refine WE.pick [1, 2, 3, 4, 5, 0] rfl rfl ?_
      refine WE.perm (fun w hs => hs.join5) ?_
      refine WE.pick [1, 0] rfl rfl ?_
      refine WE.perm (fun w hs => hs.join) ?_
      refine WE.retCr rfl (.cons (.tmp rfl) .nil) rfl ?_
      exact ⟨hI4, bn, _, rfl, rfl, ⟨_, _, _, bhn, some ⟨bw, 0, none⟩, m.words.length, Acn, kcn, Ain, kin, Apn, kpn⟩, _, Ccn, Cpn, ⟨hM5.code.mono hI4, SlO.full (ints_len _) (show m.words.length ≤ 9223372036854775807 by omega), hCn, hPn, hAin.srcO, (fun e => List.length_eq_zero_iff.1 (hnin e)), hkin⟩, rfl⟩
    )
theorem new_spec (c : CodeD) (I : Mem) (v1 v2 v3 : Value) (hc : CodeC I c v1 v2 v3) (hsp : SpTab 0 I) (input : List Int) (Ai : Option Addr) (ki : Nat) (hin : SrcO I [] Ai (ints input)) (hinN : Ai = none → input = []) (hirg : ∀ r ∈ input, Rg r) (hmay : mayC c = true) (hil : input.length ≤ 4096) : Spec Tryd.prog 7 [.agg [v1, v2, v3, .int .i64 c.main].toArray, .slice Ai input.length ki] I [] (fun v I' C' => I.le I' ∧ ∃ bm, v = .tuple [.pointer (some ⟨bm, 0, none⟩), .int .i64 0].toArray ∧ MC I' c (newM c input) bm 69 89 C') := by
  have hv1 := slV_one hc.s1
  have hv2 := slV_one hc.s2
  have hv3 := slV_one hc.s3
  refine Spec.intro Tryd.func7 rfl rfl fun Γ => ?_
  show WC _ _ _ _ [] [(0, _), (1, _)] _ _ _
  refine WC.seq ?_
  refine WC.region ?_
  refine WL.box rfl rfl rfl (fun b1 => ?_)
  refine WL.assign rfl rfl ?_
  refine WL.assign rfl rfl ?_
  refine WL.nil ?_
  refine WE.then_normal ?_
  refine WC.seq ?_
  refine WC.seq ?_
  refine WC.region ?_
  refine WL.move rfl rfl ?_
  refine WL.len_slice rfl tE27_x rfl ?_
  refine WL.arith rfl rfl rfl rfl ?_
  refine WL.move rfl rfl ?_
  refine WL.split 10 rfl (fun h2 => ?_) (fun h2 => ?_)
  · try simp at h2
    try (exfalso; first | omega | (simp at *; done))
    all_goals (
      refine WL.guard_no rfl rfl rfl rfl ?_
      refine WL.guard_no rfl rfl rfl rfl ?_
      refine WL.guard_no rfl rfl rfl rfl ?_
      refine WL.pick_true rfl rfl rfl ?_
      refine WL.nil ?_
      refine WE.then_normal ?_
      refine WC.cond_true rfl ?_
      refine WC.seq ?_
      refine WC.region ?_
      refine WL.assign rfl rfl ?_
      refine WL.assign rfl rfl ?_
      refine WL.nil ?_
      refine WE.then_normal ?_
      refine WC.ret ?_
      refine WE.then_ret ?_
      skip
    )
  · try simp at h2
    try (exfalso; first | omega | (simp at *; done))
    all_goals (
      refine WL.guard_yes rfl rfl ?_
      refine WL.load_own_agg 0 rfl rfl tA26_x tS26_x rfl rfl ?_
      refine WL.guard_yes rfl rfl ?_
      refine WL.callV okF21_x rfl rfl (mayC_spec c I _ _ _ hc hsp) ?_
      rw [hmay]
      refine WL.guard_yes rfl rfl ?_
      refine WL.not rfl rfl ?_
      refine WL.pick_false rfl rfl rfl ?_
      refine WL.nil ?_
      refine WE.then_normal ?_
      refine WC.condT rfl (fun h3 => ?_) (fun h3 => ?_)
      · try simp at h3
        try (exfalso; first | omega | (simp at *; done))
        all_goals (
          refine WC.seq ?_
          refine WC.region ?_
          refine WL.assign rfl rfl ?_
          refine WL.assign rfl rfl ?_
          refine WL.nil ?_
          refine WE.then_normal ?_
          refine WC.ret ?_
          refine WE.then_ret ?_
          skip
        )
      · try simp at h3
        try (exfalso; first | omega | (simp at *; done))
        all_goals (
          refine WC.skip ?_
          refine WE.then_normal ?_
          refine WC.seq ?_
          refine WC.region ?_
          refine WL.load_own_agg 0 rfl rfl tA26_x tS26_x rfl rfl ?_
          refine WL.callR okF22_x rfl rfl (own_spec c I _ _ _ hc hsp hmay) (fun v1 I1 hI1 hv => ?_)
          obtain ⟨_, w1, w2, w3, rfl, hc1⟩ := hv
          obtain ⟨hs1, hs2, hs3, hmain⟩ := id hc1
          obtain ⟨A1, q1, rfl, hm1, hq1, hS1⟩ := hs1
          obtain ⟨A2, q2, rfl, hm2, hq2, hS2⟩ := hs2
          obtain ⟨A3, q3, rfl, hm3, hq3, hS3⟩ := hs3
          have hwf := (MayW.of hmay).wf
          have hm0 := hwf.m0
          have hm1' := hwf.m1
          obtain ⟨f0, hf0⟩ : ∃ x, c.fns[c.main.toNat]? = some x := ⟨_, List.getElem?_eq_getElem (by omega)⟩
          obtain ⟨bf, of_, uf, rfl, hul, hrowf, rfl, hfr1, hfr2, hfr3⟩ := hS2 _ f0 hf0
          refine WL.move rfl rfl ?_
          refine WL.extract rfl rfl rfl ?_
          refine WL.extract rfl rfl rfl ?_
          refine WL.store 0 rfl rfl rfl rfl tS26_x rfl rfl rfl rfl rfl ?_
          refine WL.nil ?_
          refine WE.then_normal ?_
          refine WC.seq ?_
          refine WC.region_staged (g := 16) (e := 1) [0, 1] tMixed_x rfl rfl (fun hI0 => ?_)
          refine WS.float (k := 0) rfl (by kernel_rfl) (by kernel_rfl) (by kernel_rfl) rfl calm_no ?_
          refine WL.load_own_agg 0 rfl rfl tA26_x tS26_x rfl rfl ?_
          refine WL.nil ?_
          refine WS.onwardF ?_
          refine WS.float (k := 2) rfl (by kernel_rfl) (by kernel_rfl) (by kernel_rfl) rfl calm_no ?_
          refine WL.fieldAddr rfl tF26_1_x rfl ?_
          refine WL.nil ?_
          refine WS.onwardF ?_
          refine WS.float (k := 3) rfl (by kernel_rfl) (by kernel_rfl) (by kernel_rfl) rfl calm_no ?_
          refine WL.load_own 0 rfl rfl tA23_x rfl rfl ?_
          refine WL.nil ?_
          refine WS.onwardF ?_
          refine WS.float (k := 4) rfl (by kernel_rfl) (by kernel_rfl) (by kernel_rfl) rfl calm_no ?_
          refine WL.fieldAddr rfl tF26_3_x rfl ?_
          refine WL.nil ?_
          refine WS.onwardF ?_
          refine WS.float (k := 5) rfl (by kernel_rfl) (by kernel_rfl) (by kernel_rfl) rfl calm_no ?_
          refine WL.load_own 0 rfl rfl tA3_x rfl rfl ?_
          refine WL.nil ?_
          refine WS.onwardF ?_
          refine WS.float (k := 6) rfl (by kernel_rfl) (by kernel_rfl) (by kernel_rfl) rfl calm_no ?_
          refine WL.indexAddr rfl rfl tE23_x tS64_x rfl (by first | omega) ?_
          refine WL.nil ?_
          refine WS.onwardF ?_
          refine WS.float (k := 7) rfl (by kernel_rfl) (by kernel_rfl) (by kernel_rfl) rfl calm_no ?_
          refine WL.fieldAddr rfl tF64_0_x rfl ?_
          refine WL.nil ?_
          refine WS.onwardF ?_
          refine WS.float (k := 8) rfl (by kernel_rfl) (by kernel_rfl) (by kernel_rfl) rfl calm_no ?_
          refine WL.load_imm rfl tA3_x rfl (by first | exact hrowf 0 _ rfl) ?_
          refine WL.nil ?_
          refine WS.onwardF ?_
          refine WS.float (k := 9) rfl (by kernel_rfl) (by kernel_rfl) (by kernel_rfl) rfl calm_no ?_
          refine WL.fieldAddr rfl tF26_3_x rfl ?_
          refine WL.nil ?_
          refine WS.onwardF ?_
          refine WS.float (k := 10) rfl (by kernel_rfl) (by kernel_rfl) (by kernel_rfl) rfl calm_no ?_
          refine WL.load_own 0 rfl rfl tA3_x rfl rfl ?_
          refine WL.nil ?_
          refine WS.onwardF ?_
          refine WS.float (k := 13) rfl (by kernel_rfl) (by kernel_rfl) (by kernel_rfl) rfl calm_no ?_
          refine WL.move rfl rfl ?_
          refine WL.nil ?_
          refine WS.onwardF ?_
          refine WS.touch (k := 1) rfl (by kernel_rfl) rfl ?_
          refine WL.perm (fun _ hs => hs.nilTop) ?_
          refine WL.callS (dd := some 21) okF23_x rfl rfl (heapNew_spec _) (fun v2 I2 C2 _ hv => ?_)
          obtain ⟨hI2, bhn, rfl, rfl⟩ := hv
          have hI2 := hI2.symm
          subst hI2
          refine WL.nil ?_
          refine WS.next (e' := 11) rfl (.inr (pickW (ks := [1, 2]) rfl rfl (Mem.le_refl _) hI0)) ?_
          refine WS.touch (k := 11) rfl (by kernel_rfl) rfl ?_
          refine WL.callV okF24_x rfl rfl (size_spec _) ?_
          refine WL.nil ?_
          refine WS.next (e' := 14) rfl (.inr (pickW (ks := [1, 2]) rfl rfl (Mem.le_refl _) hI0)) ?_
          refine WS.float (k := 12) rfl (by kernel_rfl) (by kernel_rfl) (by kernel_rfl) rfl calm_no ?_
          first | refine WL.add rfl rfl (by omega) rfl ?_ | refine WL.arith rfl rfl rfl rfl ?_
          refine WL.nil ?_
          refine WS.onwardF ?_
          refine WS.touch (k := 14) rfl (by kernel_rfl) rfl ?_
          refine WL.perm (fun _ hs => hs.nilTop) ?_
          refine WL.callS (dd := some 34) okF25_x rfl rfl (clone_int I1 [] Ai input.length ki (ints input) (hin.mono hI1) (by rw [ints_len]; omega) (ints_one _) (fun e => by rw [hinN e]; rfl) (by omega) (by omega)) (fun v3 I3 C3 _ hv => ?_)
          obtain ⟨hI3, Ain, kin, Cin, rfl, hCi, rfl⟩ := hv
          have hI3 := hI3.symm
          subst hI3
          refine WL.perm (fun _ hs => hs.part) ?_
          refine WL.pick [0, 2, 3, 4] rfl rfl ?_
          have hkin := hCi.len_le
          rw [ints_len, Nat.mul_one] at hkin
          have hnin := fun e => hCi.nil_len e
          refine WL.freezeS hCi (fun I4 hI4 hAin => ?_)
          refine WL.nil ?_
          refine WS.next (e' := 16) rfl (.inr (pickW (ks := [1, 2]) rfl rfl hI4 hI0)) ?_
          refine WS.own (k := 15) rfl (by kernel_rfl) (by kernel_rfl) (by kernel_rfl) rfl calm_no ?_
          refine WL.build_struct rfl tZ69_x tSt69_x rfl rfl rfl ?_
          refine WL.nil ?_
          refine WS.onward ?_
          refine WS.touch (k := 16) rfl (by kernel_rfl) rfl ?_
          refine WL.box rfl rfl rfl (fun b4 => ?_)
          refine WL.nil ?_
          refine WS.next (e' := 18) rfl (.inl rfl) ?_
          refine WS.own (k := 17) rfl (by kernel_rfl) (by kernel_rfl) (by kernel_rfl) rfl calm_no ?_
          refine WL.assign rfl rfl ?_
          refine WL.nil ?_
          refine WS.onward ?_
          refine WS.doneC (by kernel_rfl) ?_
          refine WE.then_normal ?_
          refine WC.seq ?_
          refine WC.region ?_
          refine WL.move rfl rfl ?_
          refine WL.nilCheck rfl rfl ?_
          refine WL.fieldAddr rfl tF69_9_x rfl ?_
          refine WL.fieldAddr rfl tF34_0_x rfl ?_
          refine WL.store 0 rfl rfl rfl rfl tS30_x rfl rfl rfl rfl rfl ?_
          refine WL.nil ?_
          refine WE.then_normal ?_
          refine WC.seq ?_
          refine WC.region ?_
          refine WL.move rfl rfl ?_
          refine WL.assign rfl rfl ?_
          refine WL.assign rfl rfl ?_
          refine WL.nil ?_
          refine WE.then_normal ?_
          refine WC.ret ?_
          refine WE.pick [0, 1] rfl rfl ?_
          refine WE.perm (fun w hs => hs.join) ?_
          refine WE.retCr rfl (.cons (.tmp rfl) (.cons (.tmp rfl) .nil)) rfl ?_
          exact ⟨Mem.le_trans hI1 hI4, _, rfl, ⟨_, _, _, bhn, none, 0, none, 0, Ain, kin, none, 0⟩, [], [], [], ⟨hc1.mono hI4, SlO.nil 1, SlO.nil 3, SlO.nil 1, hAin.srcO, (fun e => List.length_eq_zero_iff.1 (hnin e)), hkin⟩, by simp only [newM, fnOf_at hf0]; rfl⟩
        )
    )
theorem new_bad (c : CodeD) (I : Mem) (v1 v2 v3 : Value) (hc : CodeC I c v1 v2 v3) (hsp : SpTab 0 I) (input : List Int) (Ai : Option Addr) (ki : Nat) (hin : SrcO I [] Ai (ints input)) (hinN : Ai = none → input = []) (hirg : ∀ r ∈ input, Rg r) (hbad : ¬ (mayC c = true ∧ input.length ≤ 4096)) : SpecV Tryd.prog 7 [.agg [v1, v2, v3, .int .i64 c.main].toArray, .slice Ai input.length ki] I (.tuple [.pointer none, .int .i64 2].toArray) := by
  refine SpecV.intro Tryd.func7 rfl rfl fun w0 => ?_
  show WC _ _ _ _ [] [(0, _), (1, _)] _ _ _
  refine WC.seq ?_
  refine WC.region ?_
  refine WL.box rfl rfl rfl (fun b1 => ?_)
  refine WL.assign rfl rfl ?_
  refine WL.assign rfl rfl ?_
  refine WL.nil ?_
  refine WE.then_normal ?_
  refine WC.seq ?_
  refine WC.seq ?_
  refine WC.region ?_
  refine WL.move rfl rfl ?_
  refine WL.len_slice rfl tE27_x rfl ?_
  refine WL.arith rfl rfl rfl rfl ?_
  refine WL.move rfl rfl ?_
  refine WL.split 10 rfl (fun h2 => ?_) (fun h2 => ?_)
  · try simp at h2
    try (exfalso; first | omega | (simp at *; done))
    all_goals (
      refine WL.guard_no rfl rfl rfl rfl ?_
      refine WL.guard_no rfl rfl rfl rfl ?_
      refine WL.guard_no rfl rfl rfl rfl ?_
      refine WL.pick_true rfl rfl rfl ?_
      refine WL.nil ?_
      refine WE.then_normal ?_
      refine WC.cond_true rfl ?_
      refine WC.seq ?_
      refine WC.region ?_
      refine WL.assign rfl rfl ?_
      refine WL.assign rfl rfl ?_
      refine WL.nil ?_
      refine WE.then_normal ?_
      refine WC.ret ?_
      refine WE.then_ret ?_
      refine WE.retV [4, 5] rfl rfl rfl ?_
      rfl
    )
  · try simp at h2
    try (exfalso; first | omega | (simp at *; done))
    all_goals (
      refine WL.guard_yes rfl rfl ?_
      refine WL.load_own_agg 0 rfl rfl tA26_x tS26_x rfl rfl ?_
      refine WL.guard_yes rfl rfl ?_
      have hmf : mayC c = false := by
        cases hq : mayC c with
        | false => rfl
        | true => exact absurd ⟨hq, by omega⟩ hbad
      refine WL.callV okF21_x rfl rfl (mayC_spec c I _ _ _ hc hsp) ?_
      rw [hmf]
      refine WL.guard_yes rfl rfl ?_
      refine WL.not rfl rfl ?_
      refine WL.pick_false rfl rfl rfl ?_
      refine WL.nil ?_
      refine WE.then_normal ?_
      refine WC.condT rfl (fun h3 => ?_) (fun h3 => ?_)
      · try simp at h3
        try (exfalso; first | omega | (simp at *; done))
        all_goals (
          refine WC.seq ?_
          refine WC.region ?_
          refine WL.assign rfl rfl ?_
          refine WL.assign rfl rfl ?_
          refine WL.nil ?_
          refine WE.then_normal ?_
          refine WC.ret ?_
          refine WE.then_ret ?_
          refine WE.retV [4, 5] rfl rfl rfl ?_
          rfl
        )
      · try simp at h3
        try (exfalso; first | omega | (simp at *; done))
        all_goals (
          refine WC.skip ?_
          refine WE.then_normal ?_
          refine WC.seq ?_
          refine WC.region ?_
          refine WL.load_own_agg 0 rfl rfl tA26_x tS26_x rfl rfl ?_
          skip
          refine WL.move rfl rfl ?_
          refine WL.extract rfl rfl rfl ?_
          refine WL.extract rfl rfl rfl ?_
          refine WL.store 0 rfl rfl rfl rfl tS26_x rfl rfl rfl rfl rfl ?_
          refine WL.nil ?_
          refine WE.then_normal ?_
          refine WC.seq ?_
          refine WC.region_tail 16 tMixed_x (by kernel_rfl) rfl rfl ?_
          refine WL.load_own_agg 0 rfl rfl tA26_x tS26_x rfl rfl ?_
          skip
          refine WL.fieldAddr rfl tF26_1_x rfl ?_
          refine WL.load_own 0 rfl rfl tA23_x rfl rfl ?_
          refine WL.fieldAddr rfl tF26_3_x rfl ?_
          refine WL.load_own 0 rfl rfl tA3_x rfl rfl ?_
          refine WL.indexAddr rfl rfl tE23_x tS64_x rfl (by first | omega) ?_
          refine WL.fieldAddr rfl tF64_0_x rfl ?_
          refine WL.load_imm rfl tA3_x rfl (by assumption) ?_
          refine WL.fieldAddr rfl tF26_3_x rfl ?_
          refine WL.load_own 0 rfl rfl tA3_x rfl rfl ?_
          skip
          first | refine WL.add rfl rfl (by omega) rfl ?_ | refine WL.arith rfl rfl rfl rfl ?_
          refine WL.move rfl rfl ?_
          skip
          refine WL.build_struct rfl tZ69_x tSt69_x rfl rfl rfl ?_
          refine WL.nil ?_
          refine WE.tail ?_
          refine WL.box rfl rfl rfl (fun b4 => ?_)
          refine WL.assign rfl rfl ?_
          refine WL.nil ?_
          refine WE.then_normal ?_
          refine WC.seq ?_
          refine WC.region ?_
          refine WL.move rfl rfl ?_
          refine WL.nilCheck rfl rfl ?_
          refine WL.fieldAddr rfl tF69_9_x rfl ?_
          refine WL.fieldAddr rfl tF34_0_x rfl ?_
          refine WL.store 0 rfl rfl rfl rfl tS30_x rfl rfl rfl rfl rfl ?_
          refine WL.nil ?_
          refine WE.then_normal ?_
          refine WC.seq ?_
          refine WC.region ?_
          refine WL.move rfl rfl ?_
          refine WL.assign rfl rfl ?_
          refine WL.assign rfl rfl ?_
          refine WL.nil ?_
          refine WE.then_normal ?_
          refine WC.ret ?_
          refine WE.retV [4, 5] rfl rfl rfl ?_
          rfl
        )
    )
theorem doN_spec (c : CodeD) (I : Mem) (v1 v2 v3 : Value) (hc : CodeC I c v1 v2 v3) (hsp : SpTab 0 I) (input : List Int) (Ai : Option Addr) (ki : Nat) (hin : SrcO I [] Ai (ints input)) (hinN : Ai = none → input = []) (hirg : ∀ r ∈ input, Rg r) (hmay : mayC c = true) (hil : input.length ≤ 4096) (k : Nat) (hk : k ≤ 4194304) : Spec Tryd.prog 6 [.agg [v1, v2, v3, .int .i64 c.main].toArray, .slice Ai input.length ki, .int .i64 (k : Int)] I [] (fun v I' C' => I.le I' ∧ ∃ A kx, v = .tuple [outV (runM c k (newM c input)) A kx, .int .i64 0].toArray ∧ SlO 1 (ints (runM c k (newM c input)).printed) A kx C') := by
  have hv1 := slV_one hc.s1
  have hv2 := slV_one hc.s2
  have hv3 := slV_one hc.s3
  refine Spec.intro Tryd.func6 rfl rfl fun Γ => ?_
  show WC _ _ _ _ [] [(0, _), (1, _), (2, _)] _ _ _
  refine WC.seq ?_
  refine WC.region ?_
  refine WL.box rfl rfl rfl (fun b1 => ?_)
  refine WL.alloc tZ34_x rfl rfl (fun b2 => ?_)
  refine WL.assign rfl rfl ?_
  refine WL.nil ?_
  refine WE.then_normal ?_
  refine WC.seq ?_
  refine WC.seq ?_
  refine WC.region ?_
  refine WL.move rfl rfl ?_
  refine WL.arith rfl rfl rfl rfl ?_
  refine WL.move rfl rfl ?_
  refine WL.split 12 rfl (fun h3 => ?_) (fun h3 => ?_)
  · try simp at h3
    try (exfalso; first | omega | (simp at *; done))
    all_goals (
      refine WL.guard_no rfl rfl rfl rfl ?_
      refine WL.guard_no rfl rfl rfl rfl ?_
      refine WL.pick_true rfl rfl rfl ?_
      refine WL.nil ?_
      refine WE.then_normal ?_
      refine WC.cond_true rfl ?_
      refine WC.seq ?_
      refine WC.region ?_
      refine WL.build_struct rfl tZ34_x tSt34_x rfl rfl rfl ?_
      refine WL.store 0 rfl rfl rfl rfl tS34_x rfl rfl rfl rfl rfl ?_
      refine WL.assign rfl rfl ?_
      refine WL.nil ?_
      refine WE.then_normal ?_
      refine WC.ret ?_
      refine WE.then_ret ?_
      skip
    )
  · try simp at h3
    try (exfalso; first | omega | (simp at *; done))
    all_goals (
      refine WL.guard_yes rfl rfl ?_
      refine WL.move rfl rfl ?_
      refine WL.guard_yes rfl rfl ?_
      refine WL.arith rfl rfl rfl rfl ?_
      refine WL.pick_false rfl rfl rfl ?_
      refine WL.nil ?_
      refine WE.then_normal ?_
      refine WC.condT rfl (fun h4 => ?_) (fun h4 => ?_)
      · try simp at h4
        try (exfalso; first | omega | (simp at *; done))
        all_goals (
          refine WC.seq ?_
          refine WC.region ?_
          refine WL.build_struct rfl tZ34_x tSt34_x rfl rfl rfl ?_
          refine WL.store 0 rfl rfl rfl rfl tS34_x rfl rfl rfl rfl rfl ?_
          refine WL.assign rfl rfl ?_
          refine WL.nil ?_
          refine WE.then_normal ?_
          refine WC.ret ?_
          refine WE.then_ret ?_
          skip
        )
      · try simp at h4
        try (exfalso; first | omega | (simp at *; done))
        all_goals (
          refine WC.skip ?_
          refine WE.then_normal ?_
          refine WC.seq ?_
          refine WC.region ?_
          refine WL.load_own_agg 1 rfl rfl tA26_x tS26_x rfl rfl ?_
          refine WL.move rfl rfl ?_
          refine WL.perm (fun _ hs => hs.nilTop) ?_
          refine WL.callS (dd := some 20) okF7_x rfl rfl (new_spec c I _ _ _ hc hsp input Ai ki hin hinN hirg hmay hil) (fun v1 I1 C1 hI1 hv => ?_)
          obtain ⟨_, bm, rfl, hM⟩ := hv
          have hwn := newM_wf (MayW.of hmay) hirg hil
          refine WL.move rfl rfl ?_
          refine WL.extract rfl rfl rfl ?_
          refine WL.extract rfl rfl rfl ?_
          refine WL.assign rfl rfl ?_
          refine WL.assign rfl rfl ?_
          refine WL.nil ?_
          refine WE.then_normal ?_
          refine WC.seq ?_
          refine WC.seq ?_
          refine WC.region ?_
          refine WL.move rfl rfl ?_
          refine WL.arith rfl rfl rfl rfl ?_
          refine WL.nil ?_
          refine WE.then_normal ?_
          refine WC.condT rfl (fun h5 => ?_) (fun h5 => ?_)
          · try simp at h5
            try (exfalso; first | omega | (simp at *; done))
            all_goals (
              refine WC.seq ?_
              refine WC.region ?_
              refine WL.build_struct rfl tZ34_x tSt34_x rfl rfl rfl ?_
              refine WL.move rfl rfl ?_
              refine WL.store 1 rfl rfl rfl rfl tS34_x rfl rfl rfl rfl rfl ?_
              refine WL.assign rfl rfl ?_
              refine WL.nil ?_
              refine WE.then_normal ?_
              refine WC.ret ?_
              refine WE.then_ret ?_
              skip
            )
          · try simp at h5
            try (exfalso; first | omega | (simp at *; done))
            all_goals (
              refine WC.skip ?_
              refine WE.then_normal ?_
              refine WC.seq ?_
              refine WC.region ?_
              refine WL.move rfl rfl ?_
              refine WL.move rfl rfl ?_
              refine WL.callS (dd := some 29) okF10_x rfl rfl (stepN_spec c (newM c input) bm _ _ _ I1 k hM hwn (by omega) (by show (0 : Int) + k ≤ 16777216; omega)) (fun v2 I2 C2 _ hv => ?_)
              obtain ⟨hI2, A2, k2, Cn, C2, rfl, hN, rfl, hM2⟩ := hv
              have hI2 := hI2.symm
              subst hI2
              refine WL.perm (fun _ hs => hs.part) ?_
              refine WL.extract rfl rfl rfl ?_
              refine WL.extract rfl rfl rfl ?_
              refine WL.store 2 rfl rfl rfl rfl tS34_x rfl rfl rfl rfl rfl ?_
              refine WL.assign rfl rfl ?_
              refine WL.nil ?_
              refine WE.then_normal ?_
              refine WC.ret ?_
              refine WE.pick [0, 2] rfl rfl ?_
              refine WE.retCr rfl (.cons (.agg 1 rfl rfl tA34_x tS34_x rfl) (.cons (.tmp rfl) .nil)) rfl ?_
              exact ⟨hI1, A2, k2, rfl, hN⟩
            )
        )
    )
theorem doN_bad (c : CodeD) (I : Mem) (v1 v2 v3 : Value) (hc : CodeC I c v1 v2 v3) (hsp : SpTab 0 I) (input : List Int) (Ai : Option Addr) (ki : Nat) (hin : SrcO I [] Ai (ints input)) (hinN : Ai = none → input = []) (hirg : ∀ r ∈ input, Rg r) (hbad : ¬ (mayC c = true ∧ input.length ≤ 4096)) (k : Nat) (hk : k ≤ 4194304) : SpecV Tryd.prog 6 [.agg [v1, v2, v3, .int .i64 c.main].toArray, .slice Ai input.length ki, .int .i64 (k : Int)] I (.tuple [.agg [.int .u8 0, .int .i64 0, .int .u8 0, .int .u8 0, .slice none 0 0].toArray, .int .i64 2].toArray) := by
  refine SpecV.intro Tryd.func6 rfl rfl fun w0 => ?_
  show WC _ _ _ _ [] [(0, _), (1, _), (2, _)] _ _ _
  refine WC.seq ?_
  refine WC.region ?_
  refine WL.box rfl rfl rfl (fun b1 => ?_)
  refine WL.alloc tZ34_x rfl rfl (fun b2 => ?_)
  refine WL.assign rfl rfl ?_
  refine WL.nil ?_
  refine WE.then_normal ?_
  refine WC.seq ?_
  refine WC.seq ?_
  refine WC.region ?_
  refine WL.move rfl rfl ?_
  refine WL.arith rfl rfl rfl rfl ?_
  refine WL.move rfl rfl ?_
  refine WL.split 12 rfl (fun h3 => ?_) (fun h3 => ?_)
  · try simp at h3
    try (exfalso; first | omega | (simp at *; done))
    all_goals (
      refine WL.guard_no rfl rfl rfl rfl ?_
      refine WL.guard_no rfl rfl rfl rfl ?_
      refine WL.pick_true rfl rfl rfl ?_
      refine WL.nil ?_
      refine WE.then_normal ?_
      refine WC.cond_true rfl ?_
      refine WC.seq ?_
      refine WC.region ?_
      refine WL.build_struct rfl tZ34_x tSt34_x rfl rfl rfl ?_
      refine WL.store 0 rfl rfl rfl rfl tS34_x rfl rfl rfl rfl rfl ?_
      refine WL.assign rfl rfl ?_
      refine WL.nil ?_
      refine WE.then_normal ?_
      refine WC.ret ?_
      refine WE.then_ret ?_
      refine WE.retVr rfl (.cons (.agg 0 rfl rfl tA34_x tS34_x rfl) (.cons (.tmp rfl) .nil)) rfl ?_
      rfl
    )
  · try simp at h3
    try (exfalso; first | omega | (simp at *; done))
    all_goals (
      refine WL.guard_yes rfl rfl ?_
      refine WL.move rfl rfl ?_
      refine WL.guard_yes rfl rfl ?_
      refine WL.arith rfl rfl rfl rfl ?_
      refine WL.pick_false rfl rfl rfl ?_
      refine WL.nil ?_
      refine WE.then_normal ?_
      refine WC.condT rfl (fun h4 => ?_) (fun h4 => ?_)
      · try simp at h4
        try (exfalso; first | omega | (simp at *; done))
        all_goals (
          refine WC.seq ?_
          refine WC.region ?_
          refine WL.build_struct rfl tZ34_x tSt34_x rfl rfl rfl ?_
          refine WL.store 0 rfl rfl rfl rfl tS34_x rfl rfl rfl rfl rfl ?_
          refine WL.assign rfl rfl ?_
          refine WL.nil ?_
          refine WE.then_normal ?_
          refine WC.ret ?_
          refine WE.then_ret ?_
          refine WE.retVr rfl (.cons (.agg 0 rfl rfl tA34_x tS34_x rfl) (.cons (.tmp rfl) .nil)) rfl ?_
          rfl
        )
      · try simp at h4
        try (exfalso; first | omega | (simp at *; done))
        all_goals (
          refine WC.skip ?_
          refine WE.then_normal ?_
          refine WC.seq ?_
          refine WC.region ?_
          refine WL.load_own_agg 1 rfl rfl tA26_x tS26_x rfl rfl ?_
          refine WL.move rfl rfl ?_
          refine WL.callV okF7_x rfl rfl (new_bad c I _ _ _ hc hsp input Ai ki hin hinN hirg hbad) ?_
          refine WL.move rfl rfl ?_
          refine WL.extract rfl rfl rfl ?_
          refine WL.extract rfl rfl rfl ?_
          refine WL.assign rfl rfl ?_
          refine WL.assign rfl rfl ?_
          refine WL.nil ?_
          refine WE.then_normal ?_
          refine WC.seq ?_
          refine WC.seq ?_
          refine WC.region ?_
          refine WL.move rfl rfl ?_
          refine WL.arith rfl rfl rfl rfl ?_
          refine WL.nil ?_
          refine WE.then_normal ?_
          refine WC.condT rfl (fun h5 => ?_) (fun h5 => ?_)
          · try simp at h5
            try (exfalso; first | omega | (simp at *; done))
            all_goals (
              refine WC.seq ?_
              refine WC.region ?_
              refine WL.build_struct rfl tZ34_x tSt34_x rfl rfl rfl ?_
              refine WL.move rfl rfl ?_
              refine WL.store 0 rfl rfl rfl rfl tS34_x rfl rfl rfl rfl rfl ?_
              refine WL.assign rfl rfl ?_
              refine WL.nil ?_
              refine WE.then_normal ?_
              refine WC.ret ?_
              refine WE.then_ret ?_
              refine WE.retVr rfl (.cons (.agg 0 rfl rfl tA34_x tS34_x rfl) (.cons (.tmp rfl) .nil)) rfl ?_
              rfl
            )
          · try simp at h5
            try (exfalso; first | omega | (simp at *; done))
            all_goals (
              refine WC.skip ?_
              refine WE.then_normal ?_
              refine WC.seq ?_
              refine WC.region ?_
              refine WL.move rfl rfl ?_
              refine WL.move rfl rfl ?_
              skip
              refine WL.extract rfl rfl rfl ?_
              refine WL.extract rfl rfl rfl ?_
              refine WL.store 0 rfl rfl rfl rfl tS34_x rfl rfl rfl rfl rfl ?_
              refine WL.assign rfl rfl ?_
              refine WL.nil ?_
              refine WE.then_normal ?_
              refine WC.ret ?_
              refine WE.retVr rfl (.cons (.agg 0 rfl rfl tA34_x tS34_x rfl) (.cons (.tmp rfl) .nil)) rfl ?_
              rfl
            )
        )
    )
end Go.Proofs.YtddkkmdbolgnlaaDoor.Fw
