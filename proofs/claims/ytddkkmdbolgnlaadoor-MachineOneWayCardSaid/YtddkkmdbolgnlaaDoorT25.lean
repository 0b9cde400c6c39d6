/- A part of the proof: steps of the walk and laws that the claim's theorem rests on; each lemma states its own conditions. -/
import Derived.Test.YtddkkmdbolgnlaaDoorT24
import Derived.Test.YtddkkmdbolgnlaaDoorWalkG
import Derived.Test.YtddkkmdbolgnlaaDoorProg
set_option linter.unusedVariables false
set_option linter.unusedSimpArgs false
namespace Go.Proofs.YtddkkmdbolgnlaaDoor.Fw
open Go.Proofs
set_option maxRecDepth 100000
set_option linter.unusedVariables false
set_option linter.unusedSimpArgs false
theorem okF17_z : okFn Tryd.prog 17 Tryd.f17 := ⟨Tryd.func17, by kernel_rfl, rfl⟩
theorem okF6_z : okFn Tryd.prog 6 Tryd.f6 := ⟨Tryd.func6, by kernel_rfl, rfl⟩
theorem tZ34_z : zeroT Tryd.prog 34 = some (.agg [(.int .u8 0), (.int .i64 0), (.int .u8 0), (.int .u8 0), (.slice none 0 0)].toArray) := by kernel_rfl
theorem tS34_z : szT Tryd.prog 34 = some 5 := by kernel_rfl
theorem tE27_z : sliceT Tryd.prog 27 = some 2 := by kernel_rfl
theorem tS2_z : szT Tryd.prog 2 = some 1 := by kernel_rfl
theorem tZ2_z : zeroT Tryd.prog 2 = some (.int .i64 0) := by kernel_rfl
theorem okF7_z : okFn Tryd.prog 7 Tryd.f7 := ⟨Tryd.func7, by kernel_rfl, rfl⟩
theorem tF34_0_z : offT Tryd.prog 34 0 = some 0 := by kernel_rfl
theorem tA30_z : aggT Tryd.prog 30 = some false := by kernel_rfl
theorem tF34_1_z : offT Tryd.prog 34 1 = some 1 := by kernel_rfl
theorem tA2_z : aggT Tryd.prog 2 = some false := by kernel_rfl
theorem tF34_4_z : offT Tryd.prog 34 4 = some 4 := by kernel_rfl
theorem tA27_z : aggT Tryd.prog 27 = some false := by kernel_rfl
theorem tP38_z : ptrT Tryd.prog 38 = true := by kernel_rfl
theorem okF10_z : okFn Tryd.prog 10 Tryd.f10 := ⟨Tryd.func10, by kernel_rfl, rfl⟩
theorem okF18_z : okFn Tryd.prog 18 Tryd.f18 := ⟨Tryd.func18, by kernel_rfl, rfl⟩
theorem okF19_z : okFn Tryd.prog 19 Tryd.f19 := ⟨Tryd.func19, by kernel_rfl, rfl⟩
theorem okF20_z : okFn Tryd.prog 20 Tryd.f20 := ⟨Tryd.func20, by kernel_rfl, rfl⟩
theorem okF11_z : okFn Tryd.prog 11 Tryd.f11 := ⟨Tryd.func11, by kernel_rfl, rfl⟩
theorem okF15_z : okFn Tryd.prog 15 Tryd.f15 := ⟨Tryd.func15, by kernel_rfl, rfl⟩
theorem okF13_z : okFn Tryd.prog 13 Tryd.f13 := ⟨Tryd.func13, by kernel_rfl, rfl⟩
theorem okF14_z : okFn Tryd.prog 14 Tryd.f14 := ⟨Tryd.func14, by kernel_rfl, rfl⟩
theorem okF16_z : okFn Tryd.prog 16 Tryd.f16 := ⟨Tryd.func16, by kernel_rfl, rfl⟩
theorem tE47_z : sliceT Tryd.prog 47 = some 3 := by kernel_rfl
theorem okF12_z : okFn Tryd.prog 12 Tryd.f12 := ⟨Tryd.func12, by kernel_rfl, rfl⟩
theorem tFd34_0_z : fld1T Tryd.prog 34 0 = some 0 := by kernel_rfl
theorem awake_spec (I : Mem) (hsp : SpTab 0 I) : SpecV Tryd.prog 5 [] I (.bool true) := by
  refine SpecV.intro Tryd.func5 rfl rfl fun w0 => ?_
  show WC _ _ _ _ [] [] _ _ _
  refine WC.seq ?_
  refine WC.region ?_
  refine WL.assign rfl rfl ?_
  refine WL.nil ?_
  refine WE.then_normal ?_
  refine WC.seq ?_
  refine WC.region ?_
  refine WL.callR okF17_z rfl rfl (seven_spec _) (fun v1 I1 hI1 hv => ?_)
  obtain ⟨_, w1, w2, w3, rfl, hc1⟩ := hv
  have hsp := hsp.mono hI1
  refine WL.perm (fun _ hs => hs.nilTop) ?_
  refine WL.callS (dd := some 17) okF6_z rfl rfl (doN_spec sevenC I1 _ _ _ hc1 hsp [] none 0 (.inr (.inl rfl)) (fun _ => rfl) (fun r hr => by cases hr) seven_may (by simp) 100 (by omega)) (fun v2 I2 C2 _ hv => ?_)
  obtain ⟨hI2, A2, k2, rfl, hN⟩ := hv
  have hsp := hsp.mono hI2
  rw [seven_out]
  have hsv := seven_p
  unfold seven0 at hsv
  rw [hsv] at hN
  obtain ⟨bN, padN, EN, rfl, rfl, hpN⟩ := hN.ne (by have := hN.len_le; simp [ints] at this; omega)
  refine WL.move rfl rfl ?_
  refine WL.extract rfl rfl rfl ?_
  refine WL.extract rfl rfl rfl ?_
  refine WL.alloc tZ34_z rfl rfl (fun b1 => ?_)
  refine WL.store 0 rfl rfl rfl rfl tS34_z rfl rfl rfl rfl rfl ?_
  refine WL.assign rfl rfl ?_
  refine WL.nil ?_
  refine WE.then_normal ?_
  refine WC.seq ?_
  refine WC.region ?_
  refine WL.callR okF17_z rfl rfl (seven_spec _) (fun v4 I4 hI4 hv => ?_)
  obtain ⟨_, w1, w2, w3, rfl, hc4⟩ := hv
  have hsp := hsp.mono hI4
  refine WL.buildSlice_lit rfl tE27_z tS2_z tZ2_z rfl rfl rfl rfl rfl rfl rfl (fun b2 => ?_)
  refine WL.pick [0, 1, 2] rfl rfl ?_
  refine WL.freeze' (fun I5 hI5 hb5 => ?_)
  have hsp := hsp.mono hI5
  refine WL.perm (fun _ hs => hs.nilTop) ?_
  refine WL.callS (dd := some 23) okF7_z rfl rfl (new_spec sevenC I5 _ _ _ (hc4.mono hI5) hsp [4] (some ⟨b2, 0, none⟩) 1 (.inl ⟨_, 0, rfl, Mem.row_of hb5⟩) (fun e => by cases e) (fun r hr => by
    simp only [List.mem_singleton] at hr
    subst hr; unfold Rg; omega) seven_may (by simp)) (fun v6 I6 C6 _ hv => ?_)
  obtain ⟨hI6, bm, rfl, hM⟩ := hv
  have hsp := hsp.mono hI6
  refine WL.move rfl rfl ?_
  refine WL.extract rfl rfl rfl ?_
  refine WL.extract rfl rfl rfl ?_
  refine WL.assign rfl rfl ?_
  refine WL.assign rfl rfl ?_
  refine WL.nil ?_
  refine WE.then_normal ?_
  refine WC.seq ?_
  refine WC.seq ?_
  refine WC.region ?_
  refine WL.move rfl rfl ?_
  refine WL.arith rfl rfl rfl rfl ?_
  refine WL.move rfl rfl ?_
  refine WL.guard_yes rfl rfl ?_
  refine WL.fieldAddr rfl tF34_0_z rfl ?_
  refine WL.guard_yes rfl rfl ?_
  refine WL.load_own 1 rfl rfl tA30_z rfl rfl ?_
  refine WL.guard_yes rfl rfl ?_
  refine WL.arith rfl rfl rfl rfl ?_
  refine WL.pick_false rfl rfl rfl ?_
  refine WL.move rfl rfl ?_
  refine WL.guard_yes rfl rfl ?_
  refine WL.fieldAddr rfl tF34_1_z rfl ?_
  refine WL.guard_yes rfl rfl ?_
  refine WL.load_own 1 rfl rfl tA2_z rfl rfl ?_
  refine WL.guard_yes rfl rfl ?_
  refine WL.arith rfl rfl rfl rfl ?_
  refine WL.pick_false rfl rfl rfl ?_
  refine WL.move rfl rfl ?_
  refine WL.guard_yes rfl rfl ?_
  refine WL.fieldAddr rfl tF34_4_z rfl ?_
  refine WL.guard_yes rfl rfl ?_
  refine WL.load_own 1 rfl rfl tA27_z rfl rfl ?_
  refine WL.guard_yes rfl rfl ?_
  refine WL.len_slice rfl tE27_z rfl ?_
  refine WL.guard_yes rfl rfl ?_
  refine WL.arith rfl rfl rfl rfl ?_
  refine WL.pick_false rfl rfl rfl ?_
  refine WL.move rfl rfl ?_
  refine WL.guard_yes rfl rfl ?_
  refine WL.fieldAddr rfl tF34_4_z rfl ?_
  refine WL.guard_yes rfl rfl ?_
  refine WL.load_own 1 rfl rfl tA27_z rfl rfl ?_
  refine WL.guard_yes rfl rfl ?_
  refine WL.indexAddr rfl rfl tE27_z tS2_z rfl (by first | omega) ?_
  refine WL.guard_yes rfl rfl ?_
  refine WL.load_own 2 rfl rfl tA2_z rfl rfl ?_
  refine WL.guard_yes rfl rfl ?_
  refine WL.arith rfl rfl rfl rfl ?_
  refine WL.pick_false rfl rfl rfl ?_
  refine WL.move rfl rfl ?_
  refine WL.guard_yes rfl rfl ?_
  refine WL.move rfl rfl ?_
  refine WL.guard_yes rfl rfl ?_
  refine WL.ptr_eqnil rfl tP38_z rfl ?_
  refine WL.pick_false rfl rfl rfl ?_
  refine WL.move rfl rfl ?_
  refine WL.guard_yes rfl rfl ?_
  refine WL.move rfl rfl ?_
  refine WL.guard_yes rfl rfl ?_
  refine WL.arith rfl rfl rfl rfl ?_
  refine WL.pick_false rfl rfl rfl ?_
  refine WL.nil ?_
  refine WE.then_normal ?_
  refine WC.cond_false rfl ?_
  refine WC.skip ?_
  refine WE.then_normal ?_
  refine WC.seq ?_
  refine WC.region ?_
  refine WL.move rfl rfl ?_
  refine WL.callS (dd := some 61) okF10_z rfl rfl (stepN_spec sevenC seven4 bm _ _ _ I6 3 hM seven4_wf (by omega) (by show (0 : Int) + _ ≤ _; omega)) (fun v7 I7 C7 _ hv => ?_)
  obtain ⟨hI7, A7, k7, Cn7, C7', rfl, hN7, rfl, hM3⟩ := hv
  have hI7 := hI7.symm
  subst hI7
  refine WL.perm (fun _ hs => hs.part) ?_
  have hw3 := (runM_wf (codeN (hc4.mono hI5)) 3 seven4_wf).1
  have hpl3 : (runM sevenC 3 seven4).printed.length ≤ 16777216 := by have h1 := hw3.plen; rw [seven3_s] at h1; omega
  refine WL.move rfl rfl ?_
  refine WL.extract rfl rfl rfl ?_
  refine WL.extract rfl rfl rfl ?_
  refine WL.alloc tZ34_z rfl rfl (fun b3 => ?_)
  refine WL.store 0 rfl rfl rfl rfl tS34_z rfl rfl rfl rfl rfl ?_
  refine WL.assign rfl rfl ?_
  refine WL.nil ?_
  refine WE.then_normal ?_
  refine WC.seq ?_
  refine WC.region ?_
  refine WL.move rfl rfl ?_
  refine WL.pick [2, 0, 1, 3, 4] rfl rfl ?_
  obtain ⟨ha, Cwa, Cca, Cpa, hM5a, rfl⟩ := id hM3
  refine WL.perm (fun _ hs => hs.part5) ?_
  have hra : (mvOf ha sevenC.main (runM sevenC 3 seven4)).regs.length = 16 := by rw [mvOf, ints_len]; exact hw3.regs
  refine WL.callQ 0 okF18_z rfl rfl rfl (at_spec 1 3 (mvOf ha sevenC.main (runM sevenC 3 seven4)) bm _ ha.bh _ hra rfl (congrArg (Value.int .u8) seven3_k) (congrArg (Value.int .i64) seven3_at)) ?_
  refine WL.move rfl rfl ?_
  refine WL.extract rfl rfl rfl ?_
  refine WL.extract rfl rfl rfl ?_
  refine WL.assign rfl rfl ?_
  refine WL.assign rfl rfl ?_
  refine WL.nil ?_
  refine WE.then_normal ?_
  refine WC.seq ?_
  refine WC.region ?_
  refine WL.move rfl rfl ?_
  refine WL.perm (fun _ hs => hs.join2) ?_
  refine WL.callQ 0 okF19_z rfl rfl rfl (wordS_spec (mvOf ha sevenC.main (runM sevenC 3 seven4)) _ _ _ _ bm _ ha.bh 373 _ hra rfl rfl hM5a.words) ?_
  refine WL.perm (fun _ hs => hs.part2) ?_
  refine WL.move rfl rfl ?_
  refine WL.extract rfl rfl rfl ?_
  refine WL.extract rfl rfl rfl ?_
  refine WL.reslot 72 rfl (congrArg (Value.int .i64) seven3_w) ?_
  refine WL.assign rfl rfl ?_
  refine WL.assign rfl rfl ?_
  refine WL.nil ?_
  refine WE.then_normal ?_
  refine WC.seq ?_
  refine WC.region ?_
  refine WL.move rfl rfl ?_
  refine WL.callQ 0 okF20_z rfl rfl rfl (register_spec (runM sevenC 3 seven4).regs 0 (mvOf ha sevenC.main (runM sevenC 3 seven4)) bm _ ha.bh _ hra rfl rfl) ?_
  refine WL.move rfl rfl ?_
  refine WL.extract rfl rfl rfl ?_
  refine WL.extract rfl rfl rfl ?_
  refine WL.reslot 77 rfl (congrArg (Value.int .i64) ((if_pos (by omega)).trans seven3_r)) ?_
  refine WL.assign rfl rfl ?_
  refine WL.assign rfl rfl ?_
  refine WL.nil ?_
  refine WE.then_normal ?_
  refine WC.seq ?_
  refine WC.region ?_
  refine WL.move rfl rfl ?_
  refine WL.perm (fun _ hs => hs.join5) ?_
  refine WL.callS (dd := some 81) okF11_z rfl rfl (copyM_spec sevenC (runM sevenC 3 seven4) bm _ _ _ _ hM3 hw3 hpl3) (fun v8 I8 C8 _ hv => ?_)
  obtain ⟨hI8, bd, D, rfl, rfl, hMD⟩ := hv
  have hsp := hsp.mono hI8
  have hM3 := hM3.mono hI8
  refine WL.perm (fun _ hs => hs.part2) ?_
  refine WL.callS (dd := some 82) okF10_z rfl rfl (stepN_spec sevenC (runM sevenC 3 seven4) bd _ _ _ I8 100 hMD hw3 (by omega) (by rw [seven3_s]; omega)) (fun v9 I9 C9 _ hv => ?_)
  obtain ⟨hI9, A9, k9, Cn9, C9', rfl, hN9, rfl, hMD2⟩ := hv
  have hI9 := hI9.symm
  subst hI9
  refine WL.perm (fun _ hs => hs.part) ?_
  refine WL.move rfl rfl ?_
  refine WL.extract rfl rfl rfl ?_
  refine WL.extract rfl rfl rfl ?_
  refine WL.alloc tZ34_z rfl rfl (fun b4 => ?_)
  refine WL.store 0 rfl rfl rfl rfl tS34_z rfl rfl rfl rfl rfl ?_
  refine WL.assign rfl rfl ?_
  refine WL.nil ?_
  refine WE.then_normal ?_
  refine WC.seq ?_
  refine WC.region ?_
  refine WL.fieldAddr rfl tF34_0_z rfl ?_
  refine WL.load_own 4 rfl rfl tA30_z rfl rfl ?_
  refine WL.reslot 86 rfl (congrArg (Value.int .u8) seven3_k) ?_
  refine WL.arith rfl rfl rfl rfl ?_
  refine WL.move rfl rfl ?_
  refine WL.guard_yes rfl rfl ?_
  refine WL.move rfl rfl ?_
  refine WL.guard_yes rfl rfl ?_
  refine WL.arith rfl rfl rfl rfl ?_
  refine WL.pick_true rfl rfl rfl ?_
  refine WL.move rfl rfl ?_
  refine WL.guard_yes rfl rfl ?_
  refine WL.move rfl rfl ?_
  refine WL.guard_yes rfl rfl ?_
  refine WL.arith rfl rfl rfl rfl ?_
  refine WL.pick_true rfl rfl rfl ?_
  refine WL.move rfl rfl ?_
  refine WL.guard_yes rfl rfl ?_
  refine WL.move rfl rfl ?_
  refine WL.pick_true rfl rfl rfl ?_
  refine WL.move rfl rfl ?_
  refine WL.guard_yes rfl rfl ?_
  refine WL.move rfl rfl ?_
  refine WL.guard_yes rfl rfl ?_
  refine WL.arith rfl rfl rfl rfl ?_
  refine WL.pick_true rfl rfl rfl ?_
  refine WL.move rfl rfl ?_
  refine WL.guard_yes rfl rfl ?_
  refine WL.move rfl rfl ?_
  refine WL.guard_yes rfl rfl ?_
  refine WL.arith rfl rfl rfl rfl ?_
  refine WL.pick_true rfl rfl rfl ?_
  refine WL.move rfl rfl ?_
  refine WL.guard_yes rfl rfl ?_
  refine WL.move rfl rfl ?_
  refine WL.guard_yes rfl rfl ?_
  refine WL.arith rfl rfl rfl rfl ?_
  refine WL.pick_true rfl rfl rfl ?_
  refine WL.move rfl rfl ?_
  refine WL.guard_yes rfl rfl ?_
  refine WL.move rfl rfl ?_
  refine WL.guard_yes rfl rfl ?_
  refine WL.arith rfl rfl rfl rfl ?_
  refine WL.pick_true rfl rfl rfl ?_
  refine WL.move rfl rfl ?_
  refine WL.guard_yes rfl rfl ?_
  refine WL.fieldAddr rfl tF34_0_z rfl ?_
  refine WL.guard_yes rfl rfl ?_
  refine WL.load_own 0 rfl rfl tA30_z rfl rfl ?_
  refine WL.guard_yes rfl rfl ?_
  refine WL.reslot 117 rfl (congrArg (Value.int .u8) seven3_100) ?_
  refine WL.arith rfl rfl rfl rfl ?_
  refine WL.pick_true rfl rfl rfl ?_
  refine WL.move rfl rfl ?_
  refine WL.guard_yes rfl rfl ?_
  refine WL.move rfl rfl ?_
  refine WL.guard_yes rfl rfl ?_
  refine WL.arith rfl rfl rfl rfl ?_
  refine WL.pick_true rfl rfl rfl ?_
  refine WL.move rfl rfl ?_
  refine WL.guard_yes rfl rfl ?_
  refine WL.move rfl rfl ?_
  refine WL.guard_yes rfl rfl ?_
  refine WL.pick [3, 0, 1, 2, 4, 5, 6, 7] rfl rfl ?_
  refine WL.perm (fun _ hs => hs.part5) ?_
  have hM5a := hM5a.mono hI8
  refine WL.callQ 0 okF15_z rfl rfl rfl (calls_spec 1 ha.Ac 0 ha.kc (mvOf ha sevenC.main (runM sevenC 3 seven4)) bm _ ha.bh _ hra rfl (by omega) (congrArg (Value.int .u8) seven3_k) (congrArg (fun n => Value.slice ha.Ac n ha.kc) seven3_c)) ?_
  refine WL.guard_yes rfl rfl ?_
  refine WL.arith rfl rfl rfl rfl ?_
  refine WL.pick_true rfl rfl rfl ?_
  refine WL.move rfl rfl ?_
  refine WL.guard_yes rfl rfl ?_
  refine WL.move rfl rfl ?_
  refine WL.guard_yes rfl rfl ?_
  refine WL.callQ 0 okF13_z rfl rfl rfl (steps_spec 3 (mvOf ha sevenC.main (runM sevenC 3 seven4)) bm _ ha.bh _ hra rfl (congrArg (Value.int .i64) seven3_s)) ?_
  refine WL.guard_yes rfl rfl ?_
  refine WL.arith rfl rfl rfl rfl ?_
  refine WL.pick_true rfl rfl rfl ?_
  refine WL.move rfl rfl ?_
  refine WL.guard_yes rfl rfl ?_
  refine WL.move rfl rfl ?_
  refine WL.guard_yes rfl rfl ?_
  refine WL.callQ 0 okF14_z rfl rfl rfl (left_spec ha.Ai 1 ha.ki (mvOf ha sevenC.main (runM sevenC 3 seven4)) bm _ ha.bh _ hra rfl (congrArg (fun n => Value.slice ha.Ai n ha.ki) seven3_i)) ?_
  refine WL.guard_yes rfl rfl ?_
  refine WL.arith rfl rfl rfl rfl ?_
  refine WL.pick_true rfl rfl rfl ?_
  refine WL.move rfl rfl ?_
  refine WL.guard_yes rfl rfl ?_
  refine WL.move rfl rfl ?_
  refine WL.guard_yes rfl rfl ?_
  refine WL.pick [0, 2, 1, 3, 4, 5, 6, 7, 8, 9, 10, 11] rfl rfl ?_
  refine WL.perm (fun _ hs => hs.join2) ?_
  refine WL.callS (dd := some 141) okF16_z rfl rfl (boxes_spec (mvOf ha sevenC.main (runM sevenC 3 seven4)) bm _ ha.bh _ _ _ hra rfl hw3.heap) (fun v10 I10 C10 _ hv => ?_)
  obtain ⟨hI10, A10, k10, Cn10, rfl, hN10, rfl⟩ := hv
  have hI10 := hI10.symm
  subst hI10
  refine WL.perm (fun _ hs => hs.part3) ?_
  refine WL.guard_yes rfl rfl ?_
  refine WL.len_slice rfl tE47_z rfl ?_
  refine WL.guard_yes rfl rfl ?_
  refine WL.arith rfl rfl rfl rfl ?_
  refine WL.pick_true rfl rfl rfl ?_
  refine WL.move rfl rfl ?_
  refine WL.guard_yes rfl rfl ?_
  refine WL.move rfl rfl ?_
  refine WL.guard_yes rfl rfl ?_
  refine WL.pick [1, 5, 0, 2, 3, 4, 6, 7, 8, 9, 10, 11, 12] rfl rfl ?_
  refine WL.perm (fun _ hs => hs.join2) ?_
  refine WL.callS (dd := some 147) okF12_z rfl rfl (outcome_spec (mvOf ha sevenC.main (runM sevenC 3 seven4)) bm _ ha.bh _ hra rfl 1 _ _ _ _ _ _ (congrArg (Value.int .u8) seven3_k) rfl rfl rfl rfl hM5a.printed hpl3) (fun v11 I11 C11 _ hv => ?_)
  obtain ⟨hI11, A11, k11, Cn11, rfl, hN11, rfl⟩ := hv
  have hI11 := hI11.symm
  subst hI11
  refine WL.perm (fun _ hs => hs.part3) ?_
  refine WL.guard_yes rfl rfl ?_
  refine WL.field1 rfl tFd34_0_z rfl rfl ?_
  refine WL.guard_yes rfl rfl ?_
  refine WL.arith rfl rfl rfl rfl ?_
  refine WL.pick_true rfl rfl rfl ?_
  refine WL.assign rfl rfl ?_
  refine WL.nil ?_
  refine WE.then_normal ?_
  refine WC.ret ?_
  refine WE.retV [0] rfl rfl rfl ?_
  rfl
end Go.Proofs.YtddkkmdbolgnlaaDoor.Fw
