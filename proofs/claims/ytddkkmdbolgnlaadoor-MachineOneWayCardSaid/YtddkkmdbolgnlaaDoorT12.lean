/- A part of the proof: steps of the walk and laws that the claim's theorem rests on; each lemma states its own conditions. -/
import Derived.Test.YtddkkmdbolgnlaaDoorT11
import Derived.Test.YtddkkmdbolgnlaaDoorWalkE
import Derived.Test.YtddkkmdbolgnlaaDoorProg
set_option linter.unusedVariables false
set_option linter.unusedSimpArgs false
namespace Go.Proofs.YtddkkmdbolgnlaaDoor.Fw
open Go.Proofs
set_option maxRecDepth 100000
set_option linter.unusedVariables false
set_option linter.unusedSimpArgs false
theorem okF36_h : okFn Tryd.prog 36 Tryd.f36 := ⟨Tryd.func36, by kernel_rfl, rfl⟩
theorem okF24_h : okFn Tryd.prog 24 Tryd.f24 := ⟨Tryd.func24, by kernel_rfl, rfl⟩
theorem tMixed_h : Tryd.prog.follows .mixedOrders = true := by kernel_rfl
theorem okF90_h : okFn Tryd.prog 90 Tryd.f90 := ⟨Tryd.func90, by kernel_rfl, rfl⟩
theorem tP61_h : ptrT Tryd.prog 61 = true := by kernel_rfl
theorem tF89_0_h : offT Tryd.prog 89 0 = some 0 := by kernel_rfl
theorem tA4_h : aggT Tryd.prog 4 = some false := by kernel_rfl
theorem tI5_h : intT Tryd.prog 5 = some .u8 := by kernel_rfl
theorem tI3_h : intT Tryd.prog 3 = some .i64 := by kernel_rfl
theorem tF86_0_h : offT Tryd.prog 86 0 = some 0 := by kernel_rfl
theorem tI84_h : intT Tryd.prog 84 = some .u16 := by kernel_rfl
theorem tI113_h : intT Tryd.prog 113 = some .u32 := by kernel_rfl
theorem okF69_h : okFn Tryd.prog 69 Tryd.f69 := ⟨Tryd.func69, by kernel_rfl, rfl⟩
theorem okF39_h : okFn Tryd.prog 39 Tryd.f39 := ⟨Tryd.func39, by kernel_rfl, rfl⟩
theorem okF88_h : okFn Tryd.prog 88 Tryd.f88 := ⟨Tryd.func88, by kernel_rfl, rfl⟩
theorem tF89_1_h : offT Tryd.prog 89 1 = some 1 := by kernel_rfl
theorem tAr87_h : arrT Tryd.prog 87 = some (5, 86) := by kernel_rfl
theorem tS86_h : szT Tryd.prog 86 = some 2 := by kernel_rfl
theorem okF87_h : okFn Tryd.prog 87 Tryd.f87 := ⟨Tryd.func87, by kernel_rfl, rfl⟩
theorem okF83_h : okFn Tryd.prog 83 Tryd.f83 := ⟨Tryd.func83, by kernel_rfl, rfl⟩
theorem tF86_1_h : offT Tryd.prog 86 1 = some 1 := by kernel_rfl
theorem okF40_h : okFn Tryd.prog 40 Tryd.f40 := ⟨Tryd.func40, by kernel_rfl, rfl⟩
theorem tSt89_h : structT Tryd.prog 89 = some [(0, 1), (1, 10)] := by kernel_rfl
theorem tZ89_h : zeroT Tryd.prog 89 = some (.agg [(.bool false), (.int .u16 0), (.int .i64 0), (.int .u16 0), (.int .i64 0), (.int .u16 0), (.int .i64 0), (.int .u16 0), (.int .i64 0), (.int .u16 0), (.int .i64 0)].toArray) := by kernel_rfl
theorem tA89_h : aggT Tryd.prog 89 = some true := by kernel_rfl
theorem tS89_h : szT Tryd.prog 89 = some 11 := by kernel_rfl
theorem tA87_h : aggT Tryd.prog 87 = some true := by kernel_rfl
theorem tS87_h : szT Tryd.prog 87 = some 10 := by kernel_rfl
theorem tA86_h : aggT Tryd.prog 86 = some true := by kernel_rfl
theorem tZ86_h : zeroT Tryd.prog 86 = some (.agg [(.int .u16 0), (.int .i64 0)].toArray) := by kernel_rfl
theorem tE47_h : sliceT Tryd.prog 47 = some 3 := by kernel_rfl
theorem tS3_h : szT Tryd.prog 3 = some 1 := by kernel_rfl
theorem tZ3_h : zeroT Tryd.prog 3 = some (.int .i64 0) := by kernel_rfl
theorem tB3_h : bytesT Tryd.prog 3 = some 8 := by kernel_rfl
theorem tStr9_h : strT Tryd.prog 9 = true := by kernel_rfl
theorem tA84_h : aggT Tryd.prog 84 = some false := by kernel_rfl
theorem tA3_h : aggT Tryd.prog 3 = some false := by kernel_rfl
theorem tS84_h : szT Tryd.prog 84 = some 1 := by kernel_rfl
theorem base_spec (k : Nat) (I : Mem) (hk : k ≤ 5) : SpecV Tryd.prog 36 [.int .i64 (k : Int)] I (.int .i64 (baseV k)) := by
  have hp := pow5 hk
  refine SpecV.intro Tryd.func36 rfl rfl fun w0 => ?_
  show WC _ _ _ _ [] [(0, _)] _ _ _
  refine WC.seq ?_
  refine WC.region ?_
  refine WL.assign rfl rfl ?_
  refine WL.nil ?_
  refine WE.then_normal ?_
  refine WC.seq ?_
  refine WC.region ?_
  refine WL.move rfl rfl ?_
  refine WL.shl_one rfl rfl rfl (by omega) ?_
  refine WL.sub rfl rfl (by omega) rfl ?_
  refine WL.arith rfl rfl (by simp only [Fw.arith]; rw [IntWalk.i64_in _ (by omega)]) rfl ?_
  first | refine WL.add rfl rfl (by omega) rfl ?_ | refine WL.arith rfl rfl rfl rfl ?_
  refine WL.assign rfl rfl ?_
  refine WL.nil ?_
  refine WE.then_normal ?_
  refine WC.ret ?_
  refine WE.retV [2] rfl rfl rfl ?_
  rfl
theorem size_spec (I : Mem) : SpecV Tryd.prog 24 [] I (.int .i64 372) := by
  refine SpecV.intro Tryd.func24 rfl rfl fun w0 => ?_
  show WC _ _ _ _ [] [] _ _ _
  refine WC.seq ?_
  refine WC.region ?_
  refine WL.assign rfl rfl ?_
  refine WL.nil ?_
  refine WE.then_normal ?_
  refine WC.seq ?_
  refine WC.region ?_
  refine WL.callV okF36_h rfl rfl (base_spec 5 I (by omega)) ?_
  rw [baseV_5]
  first | refine WL.sub rfl rfl (by omega) rfl ?_ | refine WL.arith rfl rfl rfl rfl ?_
  refine WL.assign rfl rfl ?_
  refine WL.nil ?_
  refine WE.then_normal ?_
  refine WC.ret ?_
  refine WE.retV [0] rfl rfl rfl ?_
  rfl
theorem class26_spec (at_ : Int) (I : Mem) (hr : Rg at_) : SpecV Tryd.prog 90 [.int .i64 at_] I (.tuple [.int .i64 (clsN at_ : Int), .int .i64 (fstN at_), .bool (inH at_)].toArray) := by
  unfold Rg at hr
  refine SpecV.intro Tryd.func90 rfl rfl fun w0 => ?_
  show WC _ _ _ _ [] [(0, _)] _ _ _
  refine WC.seq ?_
  refine WC.region ?_
  refine WL.assign rfl rfl ?_
  refine WL.assign rfl rfl ?_
  refine WL.assign rfl rfl ?_
  refine WL.nil ?_
  refine WE.then_normal ?_
  refine WC.seq ?_
  refine WC.seq ?_
  refine WC.region ?_
  refine WL.move rfl rfl ?_
  refine WL.arith rfl rfl rfl rfl ?_
  refine WL.move rfl rfl ?_
  refine WL.split 7 rfl (fun h1 => ?_) (fun h1 => ?_)
  · try simp at h1
    try (exfalso; omega)
    all_goals (
      refine WL.guard_no rfl rfl rfl rfl ?_
      refine WL.guard_no rfl rfl rfl rfl ?_
      refine WL.guard_no rfl rfl rfl rfl ?_
      refine WL.pick_true rfl rfl rfl ?_
      refine WL.nil ?_
      refine WE.then_normal ?_
      refine WC.cond_true rfl ?_
      refine WC.seq ?_
      refine WC.region ?_
      refine WL.assign rfl rfl ?_
      refine WL.assign rfl rfl ?_
      refine WL.assign rfl rfl ?_
      refine WL.nil ?_
      refine WE.then_normal ?_
      refine WC.ret ?_
      refine WE.then_ret ?_
      refine WE.retV [2, 3, 4] rfl rfl rfl ?_
      have hi : inH at_ = false := by simp [inH]; omega
      rw [clsN, fstN, hi]
      rfl
    )
  · try simp at h1
    try (exfalso; omega)
    all_goals (
      refine WL.guard_yes rfl rfl ?_
      refine WL.move rfl rfl ?_
      refine WL.guard_yes rfl rfl ?_
      refine WL.callV okF24_h rfl rfl (size_spec I) ?_
      refine WL.guard_yes rfl rfl ?_
      refine WL.arith rfl rfl rfl rfl ?_
      refine WL.pick_false rfl rfl rfl ?_
      refine WL.nil ?_
      refine WE.then_normal ?_
      refine WC.condT rfl (fun h2 => ?_) (fun h2 => ?_)
      · try simp at h2
        try (exfalso; omega)
        all_goals (
          refine WC.seq ?_
          refine WC.region ?_
          refine WL.assign rfl rfl ?_
          refine WL.assign rfl rfl ?_
          refine WL.assign rfl rfl ?_
          refine WL.nil ?_
          refine WE.then_normal ?_
          refine WC.ret ?_
          refine WE.then_ret ?_
          refine WE.retV [2, 3, 4] rfl rfl rfl ?_
          have hi : inH at_ = false := by simp [inH]; omega
          rw [clsN, fstN, hi]
          rfl
        )
      · try simp at h2
        try (exfalso; omega)
        all_goals (
          refine WC.skip ?_
          refine WE.then_normal ?_
          refine WC.seq ?_
          refine WC.seq ?_
          refine WC.region ?_
          refine WL.assign rfl rfl ?_
          refine WL.nil ?_
          refine WE.then_normal ?_
          refine WC.block ?_
          refine WC.rounds 5 ?_
          refine WRo.step ?_
          refine WC.seq ?_
          refine WC.seq ?_
          refine WC.region ?_
          refine WL.move rfl rfl ?_
          refine WL.callV okF36_h rfl rfl (base_spec 4 I (by omega)) ?_
          rw [baseV_4]
          refine WL.move rfl rfl ?_
          refine WL.arith rfl rfl rfl rfl ?_
          refine WL.nil ?_
          refine WE.then_normal ?_
          refine WC.condT rfl (fun h3 => ?_) (fun h3 => ?_)
          · try simp at h3
            try (exfalso; omega)
            all_goals (
              refine WC.skip ?_
              refine WE.then_normal ?_
              refine WC.seq ?_
              refine WC.block ?_
              refine WC.skip ?_
              refine WE.block_normal ?_
              refine WE.then_normal ?_
              refine WC.region ?_
              refine WL.move rfl rfl ?_
              first | refine WL.sub rfl rfl (by omega) rfl ?_ | refine WL.arith rfl rfl rfl rfl ?_
              refine WL.assign rfl rfl ?_
              refine WL.nil ?_
              refine WE.then_rounds ?_
              refine WRo.step ?_
              refine WC.seq ?_
              refine WC.seq ?_
              refine WC.region ?_
              refine WL.move rfl rfl ?_
              refine WL.callV okF36_h rfl rfl (base_spec 3 I (by omega)) ?_
              rw [baseV_3]
              refine WL.move rfl rfl ?_
              refine WL.arith rfl rfl rfl rfl ?_
              refine WL.nil ?_
              refine WE.then_normal ?_
              refine WC.condT rfl (fun h4 => ?_) (fun h4 => ?_)
              · try simp at h4
                try (exfalso; omega)
                all_goals (
                  refine WC.skip ?_
                  refine WE.then_normal ?_
                  refine WC.seq ?_
                  refine WC.block ?_
                  refine WC.skip ?_
                  refine WE.block_normal ?_
                  refine WE.then_normal ?_
                  refine WC.region ?_
                  refine WL.move rfl rfl ?_
                  first | refine WL.sub rfl rfl (by omega) rfl ?_ | refine WL.arith rfl rfl rfl rfl ?_
                  refine WL.assign rfl rfl ?_
                  refine WL.nil ?_
                  refine WE.then_rounds ?_
                  refine WRo.step ?_
                  refine WC.seq ?_
                  refine WC.seq ?_
                  refine WC.region ?_
                  refine WL.move rfl rfl ?_
                  refine WL.callV okF36_h rfl rfl (base_spec 2 I (by omega)) ?_
                  rw [baseV_2]
                  refine WL.move rfl rfl ?_
                  refine WL.arith rfl rfl rfl rfl ?_
                  refine WL.nil ?_
                  refine WE.then_normal ?_
                  refine WC.condT rfl (fun h5 => ?_) (fun h5 => ?_)
                  · try simp at h5
                    try (exfalso; omega)
                    all_goals (
                      refine WC.skip ?_
                      refine WE.then_normal ?_
                      refine WC.seq ?_
                      refine WC.block ?_
                      refine WC.skip ?_
                      refine WE.block_normal ?_
                      refine WE.then_normal ?_
                      refine WC.region ?_
                      refine WL.move rfl rfl ?_
                      first | refine WL.sub rfl rfl (by omega) rfl ?_ | refine WL.arith rfl rfl rfl rfl ?_
                      refine WL.assign rfl rfl ?_
                      refine WL.nil ?_
                      refine WE.then_rounds ?_
                      refine WRo.step ?_
                      refine WC.seq ?_
                      refine WC.seq ?_
                      refine WC.region ?_
                      refine WL.move rfl rfl ?_
                      refine WL.callV okF36_h rfl rfl (base_spec 1 I (by omega)) ?_
                      rw [baseV_1]
                      refine WL.move rfl rfl ?_
                      refine WL.arith rfl rfl rfl rfl ?_
                      refine WL.nil ?_
                      refine WE.then_normal ?_
                      refine WC.condT rfl (fun h6 => ?_) (fun h6 => ?_)
                      · try simp at h6
                        try (exfalso; omega)
                        all_goals (
                          refine WC.skip ?_
                          refine WE.then_normal ?_
                          refine WC.seq ?_
                          refine WC.block ?_
                          refine WC.skip ?_
                          refine WE.block_normal ?_
                          refine WE.then_normal ?_
                          refine WC.region ?_
                          refine WL.move rfl rfl ?_
                          first | refine WL.sub rfl rfl (by omega) rfl ?_ | refine WL.arith rfl rfl rfl rfl ?_
                          refine WL.assign rfl rfl ?_
                          refine WL.nil ?_
                          refine WE.then_rounds ?_
                          refine WRo.step ?_
                          refine WC.seq ?_
                          refine WC.seq ?_
                          refine WC.region ?_
                          refine WL.move rfl rfl ?_
                          refine WL.callV okF36_h rfl rfl (base_spec 0 I (by omega)) ?_
                          rw [baseV_0]
                          refine WL.move rfl rfl ?_
                          refine WL.arith rfl rfl rfl rfl ?_
                          refine WL.nil ?_
                          refine WE.then_normal ?_
                          refine WC.condT rfl (fun h7 => ?_) (fun h7 => ?_)
                          · try simp at h7
                            try (exfalso; omega)
                            all_goals (
                              refine WC.skip ?_
                              refine WE.then_normal ?_
                              refine WC.seq ?_
                              refine WC.block ?_
                              refine WC.skip ?_
                              refine WE.block_normal ?_
                              refine WE.then_normal ?_
                              refine WC.region ?_
                              refine WL.move rfl rfl ?_
                              first | refine WL.sub rfl rfl (by omega) rfl ?_ | refine WL.arith rfl rfl rfl rfl ?_
                              refine WL.assign rfl rfl ?_
                              refine WL.nil ?_
                              refine WE.then_rounds ?_
                              exfalso
                              omega
                            )
                          · try simp at h7
                            try (exfalso; omega)
                            all_goals (
                              refine WC.exit ?_
                              refine WE.then_exit ?_
                              refine WE.then_exit ?_
                              refine WE.block_exit ?_
                              refine WE.then_normal ?_
                              refine WC.seq ?_
                              refine WC.region_draw tMixed_h (by kernel_rfl) ?_
                              refine WL.move rfl rfl ?_
                              refine WL.move rfl rfl ?_
                              refine WL.move rfl rfl ?_
                              refine WL.move rfl rfl ?_
                              refine WL.callV okF36_h rfl rfl (base_spec 0 I (by omega)) ?_
                              rw [baseV_0]
                              first | refine WL.sub rfl rfl (by omega) rfl ?_ | refine WL.arith rfl rfl rfl rfl ?_
                              refine WL.move rfl rfl ?_
                              refine WL.shl_one (k := 0) rfl rfl rfl (by omega) ?_
                              refine WL.rem rfl rfl rfl (by first | omega | decide) ?_
                              obtain ⟨ht1, ht2, ht3⟩ := tmod_rg (x := at_ - 1) (m := (2 : Int) ^ 0) (by omega) (by decide)
                              first | refine WL.sub rfl rfl (by omega) rfl ?_ | refine WL.arith rfl rfl rfl rfl ?_
                              refine WL.assign rfl rfl ?_
                              refine WL.assign rfl rfl ?_
                              refine WL.assign rfl rfl ?_
                              refine WL.nil ?_
                              refine WE.then_normal ?_
                              refine WC.ret ?_
                              refine WE.retV [2, 3, 4] rfl rfl rfl ?_
                              have hi : inH at_ = true := by simp [inH]; omega
                              have hc : clsI at_ = 0 := by unfold clsI; (repeat' split) <;> omega
                              rw [clsN, fstN, hi, firstV, hc, baseV_0]
                              rfl
                            )
                        )
                      · try simp at h6
                        try (exfalso; omega)
                        all_goals (
                          refine WC.exit ?_
                          refine WE.then_exit ?_
                          refine WE.then_exit ?_
                          refine WE.block_exit ?_
                          refine WE.then_normal ?_
                          refine WC.seq ?_
                          refine WC.region_draw tMixed_h (by kernel_rfl) ?_
                          refine WL.move rfl rfl ?_
                          refine WL.move rfl rfl ?_
                          refine WL.move rfl rfl ?_
                          refine WL.move rfl rfl ?_
                          refine WL.callV okF36_h rfl rfl (base_spec 1 I (by omega)) ?_
                          rw [baseV_1]
                          first | refine WL.sub rfl rfl (by omega) rfl ?_ | refine WL.arith rfl rfl rfl rfl ?_
                          refine WL.move rfl rfl ?_
                          refine WL.shl_one (k := 1) rfl rfl rfl (by omega) ?_
                          refine WL.rem rfl rfl rfl (by first | omega | decide) ?_
                          obtain ⟨ht1, ht2, ht3⟩ := tmod_rg (x := at_ - 13) (m := (2 : Int) ^ 1) (by omega) (by decide)
                          first | refine WL.sub rfl rfl (by omega) rfl ?_ | refine WL.arith rfl rfl rfl rfl ?_
                          refine WL.assign rfl rfl ?_
                          refine WL.assign rfl rfl ?_
                          refine WL.assign rfl rfl ?_
                          refine WL.nil ?_
                          refine WE.then_normal ?_
                          refine WC.ret ?_
                          refine WE.retV [2, 3, 4] rfl rfl rfl ?_
                          have hi : inH at_ = true := by simp [inH]; omega
                          have hc : clsI at_ = 1 := by unfold clsI; (repeat' split) <;> omega
                          rw [clsN, fstN, hi, firstV, hc, baseV_1]
                          rfl
                        )
                    )
                  · try simp at h5
                    try (exfalso; omega)
                    all_goals (
                      refine WC.exit ?_
                      refine WE.then_exit ?_
                      refine WE.then_exit ?_
                      refine WE.block_exit ?_
                      refine WE.then_normal ?_
                      refine WC.seq ?_
                      refine WC.region_draw tMixed_h (by kernel_rfl) ?_
                      refine WL.move rfl rfl ?_
                      refine WL.move rfl rfl ?_
                      refine WL.move rfl rfl ?_
                      refine WL.move rfl rfl ?_
                      refine WL.callV okF36_h rfl rfl (base_spec 2 I (by omega)) ?_
                      rw [baseV_2]
                      first | refine WL.sub rfl rfl (by omega) rfl ?_ | refine WL.arith rfl rfl rfl rfl ?_
                      refine WL.move rfl rfl ?_
                      refine WL.shl_one (k := 2) rfl rfl rfl (by omega) ?_
                      refine WL.rem rfl rfl rfl (by first | omega | decide) ?_
                      obtain ⟨ht1, ht2, ht3⟩ := tmod_rg (x := at_ - 37) (m := (2 : Int) ^ 2) (by omega) (by decide)
                      first | refine WL.sub rfl rfl (by omega) rfl ?_ | refine WL.arith rfl rfl rfl rfl ?_
                      refine WL.assign rfl rfl ?_
                      refine WL.assign rfl rfl ?_
                      refine WL.assign rfl rfl ?_
                      refine WL.nil ?_
                      refine WE.then_normal ?_
                      refine WC.ret ?_
                      refine WE.retV [2, 3, 4] rfl rfl rfl ?_
                      have hi : inH at_ = true := by simp [inH]; omega
                      have hc : clsI at_ = 2 := by unfold clsI; (repeat' split) <;> omega
                      rw [clsN, fstN, hi, firstV, hc, baseV_2]
                      rfl
                    )
                )
              · try simp at h4
                try (exfalso; omega)
                all_goals (
                  refine WC.exit ?_
                  refine WE.then_exit ?_
                  refine WE.then_exit ?_
                  refine WE.block_exit ?_
                  refine WE.then_normal ?_
                  refine WC.seq ?_
                  refine WC.region_draw tMixed_h (by kernel_rfl) ?_
                  refine WL.move rfl rfl ?_
                  refine WL.move rfl rfl ?_
                  refine WL.move rfl rfl ?_
                  refine WL.move rfl rfl ?_
                  refine WL.callV okF36_h rfl rfl (base_spec 3 I (by omega)) ?_
                  rw [baseV_3]
                  first | refine WL.sub rfl rfl (by omega) rfl ?_ | refine WL.arith rfl rfl rfl rfl ?_
                  refine WL.move rfl rfl ?_
                  refine WL.shl_one (k := 3) rfl rfl rfl (by omega) ?_
                  refine WL.rem rfl rfl rfl (by first | omega | decide) ?_
                  obtain ⟨ht1, ht2, ht3⟩ := tmod_rg (x := at_ - 85) (m := (2 : Int) ^ 3) (by omega) (by decide)
                  first | refine WL.sub rfl rfl (by omega) rfl ?_ | refine WL.arith rfl rfl rfl rfl ?_
                  refine WL.assign rfl rfl ?_
                  refine WL.assign rfl rfl ?_
                  refine WL.assign rfl rfl ?_
                  refine WL.nil ?_
                  refine WE.then_normal ?_
                  refine WC.ret ?_
                  refine WE.retV [2, 3, 4] rfl rfl rfl ?_
                  have hi : inH at_ = true := by simp [inH]; omega
                  have hc : clsI at_ = 3 := by unfold clsI; (repeat' split) <;> omega
                  rw [clsN, fstN, hi, firstV, hc, baseV_3]
                  rfl
                )
            )
          · try simp at h3
            try (exfalso; omega)
            all_goals (
              refine WC.exit ?_
              refine WE.then_exit ?_
              refine WE.then_exit ?_
              refine WE.block_exit ?_
              refine WE.then_normal ?_
              refine WC.seq ?_
              refine WC.region_draw tMixed_h (by kernel_rfl) ?_
              refine WL.move rfl rfl ?_
              refine WL.move rfl rfl ?_
              refine WL.move rfl rfl ?_
              refine WL.move rfl rfl ?_
              refine WL.callV okF36_h rfl rfl (base_spec 4 I (by omega)) ?_
              rw [baseV_4]
              first | refine WL.sub rfl rfl (by omega) rfl ?_ | refine WL.arith rfl rfl rfl rfl ?_
              refine WL.move rfl rfl ?_
              refine WL.shl_one (k := 4) rfl rfl rfl (by omega) ?_
              refine WL.rem rfl rfl rfl (by first | omega | decide) ?_
              obtain ⟨ht1, ht2, ht3⟩ := tmod_rg (x := at_ - 181) (m := (2 : Int) ^ 4) (by omega) (by decide)
              first | refine WL.sub rfl rfl (by omega) rfl ?_ | refine WL.arith rfl rfl rfl rfl ?_
              refine WL.assign rfl rfl ?_
              refine WL.assign rfl rfl ?_
              refine WL.assign rfl rfl ?_
              refine WL.nil ?_
              refine WE.then_normal ?_
              refine WC.ret ?_
              refine WE.retV [2, 3, 4] rfl rfl rfl ?_
              have hi : inH at_ = true := by simp [inH]; omega
              have hc : clsI at_ = 4 := by unfold clsI; (repeat' split) <;> omega
              rw [clsN, fstN, hi, firstV, hc, baseV_4]
              rfl
            )
        )
    )
theorem block_spec (at_ : Int) (I : Mem) (hr : Rg at_) : SpecV Tryd.prog 88 [.int .i64 at_] I (.tuple [.int .i64 (clsN at_ : Int), .int .i64 (blkN at_), .bool (blkOk at_)].toArray) := by
  have hc4 := clsN_le at_
  refine SpecV.intro Tryd.func88 rfl rfl fun w0 => ?_
  show WC _ _ _ _ [] [(0, _)] _ _ _
  refine WC.seq ?_
  refine WC.region ?_
  refine WL.assign rfl rfl ?_
  refine WL.assign rfl rfl ?_
  refine WL.assign rfl rfl ?_
  refine WL.nil ?_
  refine WE.then_normal ?_
  refine WC.seq ?_
  refine WC.region ?_
  refine WL.move rfl rfl ?_
  refine WL.callV okF90_h rfl rfl (class26_spec at_ I hr) ?_
  refine WL.move rfl rfl ?_
  refine WL.extract rfl rfl rfl ?_
  refine WL.extract rfl rfl rfl ?_
  refine WL.extract rfl rfl rfl ?_
  refine WL.assign rfl rfl ?_
  refine WL.assign rfl rfl ?_
  refine WL.assign rfl rfl ?_
  refine WL.nil ?_
  refine WE.then_normal ?_
  refine WC.seq ?_
  refine WC.region_draw tMixed_h (by kernel_rfl) ?_
  refine WL.move rfl rfl ?_
  refine WL.move rfl rfl ?_
  refine WL.move rfl rfl ?_
  refine WL.callV okF36_h rfl rfl (base_spec (clsN at_) I (by omega)) ?_
  refine WL.arith rfl rfl rfl rfl ?_
  refine WL.move rfl rfl ?_
  refine WL.shr rfl rfl rfl (by omega) ?_
  refine WL.move rfl rfl ?_
  refine WL.move rfl rfl ?_
  refine WL.split 20 rfl (fun h1 => ?_) (fun h1 => ?_)
  · try simp at h1
    all_goals (
      refine WL.guard_yes rfl rfl ?_
      refine WL.move rfl rfl ?_
      refine WL.guard_yes rfl rfl ?_
      refine WL.move rfl rfl ?_
      refine WL.guard_yes rfl rfl ?_
      refine WL.arith rfl rfl rfl rfl ?_
      refine WL.pick_true rfl rfl rfl ?_
      refine WL.assign rfl rfl ?_
      refine WL.assign rfl rfl ?_
      refine WL.assign rfl rfl ?_
      refine WL.nil ?_
      refine WE.then_normal ?_
      refine WC.ret ?_
      refine WE.retV [2, 3, 4] rfl rfl rfl ?_
      first | (simp only [tupleOf, blkN, blkOk, *]; simp; done) | (simp [tupleOf, blkN, blkOk, *])
    )
  · try simp at h1
    all_goals (
      refine WL.guard_no rfl rfl rfl rfl ?_
      refine WL.guard_no rfl rfl rfl rfl ?_
      refine WL.guard_no rfl rfl rfl rfl ?_
      refine WL.pick_false rfl rfl rfl ?_
      refine WL.assign rfl rfl ?_
      refine WL.assign rfl rfl ?_
      refine WL.assign rfl rfl ?_
      refine WL.nil ?_
      refine WE.then_normal ?_
      refine WC.ret ?_
      refine WE.retV [2, 3, 4] rfl rfl rfl ?_
      first | (simp only [tupleOf, blkN, blkOk, *]; simp; done) | (simp [tupleOf, blkN, blkOk, *])
    )
theorem is_spec (h : List ArD) (bh : Nat) (E : TypeId) (I : Mem) : Spec Tryd.prog 39 [.pointer (some ⟨bh, 0, none⟩)] I [(bh, .cells (hpCells h).toArray E (0, 0))] (fun v I' C' => v = .bool true ∧ I' = I ∧ C' = [(bh, .cells (hpCells h).toArray E (0, 0))]) := by
  refine Spec.intro Tryd.func39 rfl rfl fun Γ => ?_
  show WC _ _ _ _ [] [(0, _)] _ _ _
  refine WC.seq ?_
  refine WC.region ?_
  refine WL.assign rfl rfl ?_
  refine WL.nil ?_
  refine WE.then_normal ?_
  refine WC.seq ?_
  refine WC.region ?_
  refine WL.move rfl rfl ?_
  refine WL.ptr_nenil rfl tP61_h rfl ?_
  refine WL.move rfl rfl ?_
  refine WL.split 5 rfl (fun h1 => ?_) (fun h1 => ?_)
  · try simp only [decide_eq_true_eq, decide_eq_false_iff_not, beq_iff_eq, bne_iff_ne, ne_eq, beq_eq_false_iff_ne, bne_eq_false_iff_eq, Bool.not_eq_true', Bool.not_eq_false', gt_iff_lt, ge_iff_le] at h1
    try (exfalso; simp at *; done)
    all_goals (
      refine WL.guard_yes rfl rfl ?_
      refine WL.move rfl rfl ?_
      refine WL.guard_yes rfl rfl ?_
      refine WL.nilCheck rfl rfl ?_
      refine WL.guard_yes rfl rfl ?_
      refine WL.fieldAddr rfl tF89_0_h rfl ?_
      refine WL.guard_yes rfl rfl ?_
      refine WL.load_own 0 rfl rfl tA4_h rfl rfl ?_
      refine WL.pick_true rfl rfl rfl ?_
      refine WL.assign rfl rfl ?_
      refine WL.nil ?_
      refine WE.then_normal ?_
      refine WC.ret ?_
      first | (refine WE.retCr rfl (.cons (.tmp rfl) .nil) rfl ?_; exact ⟨rfl, rfl, rfl⟩) | skip
    )
  · try simp only [decide_eq_true_eq, decide_eq_false_iff_not, beq_iff_eq, bne_iff_ne, ne_eq, beq_eq_false_iff_ne, bne_eq_false_iff_eq, Bool.not_eq_true', Bool.not_eq_false', gt_iff_lt, ge_iff_le] at h1
    try (exfalso; simp at *; done)
    all_goals (
      refine WL.guard_no rfl rfl rfl rfl ?_
      refine WL.guard_no rfl rfl rfl rfl ?_
      refine WL.guard_no rfl rfl rfl rfl ?_
      refine WL.guard_no rfl rfl rfl rfl ?_
      refine WL.pick_false rfl rfl rfl ?_
      refine WL.assign rfl rfl ?_
      refine WL.nil ?_
      refine WE.then_normal ?_
      refine WC.ret ?_
      first | (refine WE.retCr rfl (.cons (.tmp rfl) .nil) rfl ?_; exact ⟨rfl, rfl, rfl⟩) | skip
    )
theorem ones_spec (t : Nat) (I : Mem) (ht : t < 4096) : SpecV Tryd.prog 69 [.int .u32 (t : Int)] I (.int .i64 (pop t : Int)) := by
  have q0 := pop8_le (t / 2 ^ 24); have q1 := pop8_le (t / 2 ^ 16 % 256); have q2 := pop8_le (t / 2 ^ 8 % 256); have q3 := pop8_le (t % 256)
  have e0 : t / 2 ^ 24 = 0 := by omega
  have e1 : t / 2 ^ 16 % 256 = 0 := by omega
  have e2 : t / 2 ^ 8 % 256 = t / 256 := by omega
  have z0 : pop8 0 = 0 := rfl
  refine SpecV.intro Tryd.func69 rfl rfl fun w0 => ?_
  show WC _ _ _ _ [] [(0, _)] _ _ _
  refine WC.seq ?_
  refine WC.region ?_
  refine WL.assign rfl rfl ?_
  refine WL.nil ?_
  refine WE.then_normal ?_
  refine WC.seq ?_
  refine WC.region_draw tMixed_h (by kernel_rfl) ?_
  refine WL.move rfl rfl ?_
  refine WL.shr_nat (j := 24) rfl rfl rfl (by decide) ?_
  refine WL.pop8 rfl rfl tStr9_h rfl (by kernel_rfl) (by omega) ?_
  refine WL.move rfl rfl ?_
  refine WL.shr_nat (j := 16) rfl rfl rfl (by decide) ?_
  refine WL.bits rfl rfl rfl rfl ?_
  rw [and255 (by omega)]
  refine WL.pop8 rfl rfl tStr9_h rfl (by kernel_rfl) (by omega) ?_
  refine WL.arith rfl rfl (by simp only [Fw.arith]; rw [IntWalk.u8_in _ (by omega)]) rfl ?_
  refine WL.move rfl rfl ?_
  refine WL.shr_nat (j := 8) rfl rfl rfl (by decide) ?_
  refine WL.bits rfl rfl rfl rfl ?_
  rw [and255 (by omega)]
  refine WL.pop8 rfl rfl tStr9_h rfl (by kernel_rfl) (by omega) ?_
  refine WL.arith rfl rfl (by simp only [Fw.arith]; rw [IntWalk.u8_in _ (by omega)]) rfl ?_
  refine WL.move rfl rfl ?_
  refine WL.bits rfl rfl rfl rfl ?_
  rw [and255 (by omega)]
  refine WL.pop8 rfl rfl tStr9_h rfl (by kernel_rfl) (by omega) ?_
  refine WL.arith rfl rfl (by simp only [Fw.arith]; rw [IntWalk.u8_in _ (by omega)]) rfl ?_
  first | refine WL.convert_in rfl tI5_h tI3_h rfl (IntWalk.i64_in _ (by omega)) ?_ | refine WL.convert_int rfl tI5_h tI3_h rfl ?_
  refine WL.assign rfl rfl ?_
  refine WL.nil ?_
  refine WE.then_normal ?_
  refine WC.ret ?_
  refine WE.retV [2] rfl rfl rfl ?_
  show Value.int .i64 _ = _
  congr 1
  unfold pop
  rw [e0, e1, e2, z0]
  omega
theorem count_spec (t b off : Nat) (c : Array Value) (E : TypeId) (fz : Nat × Nat) (I : Mem) (ht : t < 4096) (hc : nth c.toList off = some (.int .u16 (t : Int))) : Spec Tryd.prog 40 [.pointer (some ⟨b, off, none⟩)] I [(b, .cells c E fz)] (fun v I' C' => v = .int .i64 (pop t : Int) ∧ I' = I ∧ C' = [(b, .cells c E fz)]) := by
  refine Spec.intro Tryd.func40 rfl rfl fun Γ => ?_
  show WC _ _ _ _ [] [(0, _)] _ _ _
  refine WC.seq ?_
  refine WC.region ?_
  refine WL.assign rfl rfl ?_
  refine WL.nil ?_
  refine WE.then_normal ?_
  refine WC.seq ?_
  refine WC.region ?_
  refine WL.move rfl rfl ?_
  refine WL.nilCheck rfl rfl ?_
  refine WL.fieldAddr rfl tF86_0_h rfl ?_
  refine WL.load_own 0 rfl rfl tA84_h hc rfl ?_
  first | refine WL.convert_in rfl tI84_h tI113_h rfl (IntWalk.u32_in _ (by omega)) ?_ | refine WL.convert_int rfl tI84_h tI113_h rfl ?_
  refine WL.callV okF69_h rfl rfl (ones_spec t I ht) ?_
  refine WL.assign rfl rfl ?_
  refine WL.nil ?_
  refine WE.then_normal ?_
  refine WC.ret ?_
  refine WE.retCr rfl (.cons (.tmp rfl) .nil) rfl ?_
  exact ⟨rfl, rfl, rfl⟩
theorem free_spec (t b off : Nat) (c : Array Value) (E : TypeId) (fz : Nat × Nat) (I : Mem) (ht : t < 4096) (hc : nth c.toList off = some (.int .u16 (t : Int))) : Spec Tryd.prog 83 [.pointer (some ⟨b, off, none⟩)] I [(b, .cells c E fz)] (fun v I' C' => v = .tuple [.int .i64 (((freeI t).getD 0 : Nat) : Int), .bool (freeI t).isSome].toArray ∧ I' = I ∧ C' = [(b, .cells c E fz)]) := by
  refine Spec.intro Tryd.func83 rfl rfl fun Γ => ?_
  show WC _ _ _ _ [] [(0, _)] _ _ _
  refine WC.seq ?_
  refine WC.region ?_
  refine WL.assign rfl rfl ?_
  refine WL.assign rfl rfl ?_
  refine WL.nil ?_
  refine WE.then_normal ?_
  refine WC.seq ?_
  refine WC.seq ?_
  refine WC.region ?_
  refine WL.move rfl rfl ?_
  refine WL.nil ?_
  refine WE.then_normal ?_
  refine WC.block ?_
  refine WC.loopV (X := Nat) [0] rfl (fun k => [(5, .int .i64 (k : Int))]) (fun k => k ≤ 12 ∧ ∀ j, j < k → bit t j = true) (fun k => 12 - k) 0 (⟨by omega, fun j h => absurd h (Nat.not_lt_zero _)⟩) ⟨rfl, trivial⟩ (fun k hinv => ?_)
  obtain ⟨hk, hall⟩ := hinv
  refine WC.seq ?_
  refine WC.region ?_
  refine WL.arith rfl rfl rfl rfl ?_
  refine WL.nil ?_
  refine WE.then_normal ?_
  refine WC.seq ?_
  refine WC.condT rfl (fun h1 => ?_) (fun h1 => ?_)
  · try simp at h1
    all_goals (
      refine WC.skip ?_
      refine WE.then_normal ?_
      refine WC.seq ?_
      refine WC.block ?_
      refine WC.seq ?_
      refine WC.region ?_
      refine WL.move rfl rfl ?_
      refine WL.assign rfl rfl ?_
      refine WL.nil ?_
      refine WE.then_normal ?_
      refine WC.block ?_
      refine WC.seq ?_
      refine WC.region ?_
      refine WL.move rfl rfl ?_
      refine WL.nilCheck rfl rfl ?_
      refine WL.fieldAddr rfl tF86_0_h rfl ?_
      refine WL.load_own 0 rfl rfl tA84_h hc rfl ?_
      refine WL.move rfl rfl ?_
      refine WL.shr rfl rfl rfl (by omega) ?_
      refine WL.bits rfl rfl rfl rfl ?_
      rw [shr_and (by omega) (by omega)]
      refine WL.arith rfl rfl rfl rfl ?_
      rw [bI_eq]
      refine WL.assign rfl rfl ?_
      refine WL.nil ?_
      refine WE.then_normal ?_
      refine WC.condT rfl (fun h2 => ?_) (fun h2 => ?_)
      · try simp at h2
        all_goals (
          refine WC.seq ?_
          refine WC.region ?_
          refine WL.move rfl rfl ?_
          refine WL.assign rfl rfl ?_
          refine WL.assign rfl rfl ?_
          refine WL.nil ?_
          refine WE.then_normal ?_
          refine WC.ret ?_
          refine WE.block_ret ?_
          refine WE.block_ret ?_
          refine WE.then_ret ?_
          refine WE.then_ret ?_
          refine WE.block_ret ?_
          refine WE.then_ret ?_
          refine WE.retCr rfl (.cons (.tmp rfl) (.cons (.tmp rfl) .nil)) rfl ?_
          first | (rw [freeI_some (by omega) hall ‹_›]; exact ⟨rfl, rfl, rfl⟩) | (rw [freeI_none (fun j hj => hall j (by omega))]; exact ⟨rfl, rfl, rfl⟩)
        )
      · try simp at h2
        all_goals (
          refine WC.skip ?_
          refine WE.block_normal ?_
          refine WE.block_normal ?_
          refine WE.then_normal ?_
          refine WC.region ?_
          first | refine WL.add rfl rfl (by omega) rfl ?_ | refine WL.arith rfl rfl rfl rfl ?_
          refine WL.move rfl rfl ?_
          refine WL.nil ?_
          refine WE.backV (k + 1) (⟨by omega, fun j hj => by
            rcases Nat.lt_succ_iff_lt_or_eq.1 hj with h | h
            · exact hall j h
            · rw [h]; assumption⟩) (by omega) ⟨rfl, trivial⟩ (by repeat (first | exact trivial | refine ⟨rfl, ?_⟩))
        )
    )
  · try simp at h1
    all_goals (
      refine WC.exit ?_
      refine WE.then_exit ?_
      refine WE.then_exit ?_
      refine WE.block_exit ?_
      refine WE.then_normal ?_
      refine WC.seq ?_
      refine WC.region ?_
      refine WL.assign rfl rfl ?_
      refine WL.assign rfl rfl ?_
      refine WL.nil ?_
      refine WE.then_normal ?_
      refine WC.ret ?_
      refine WE.retCr rfl (.cons (.tmp rfl) (.cons (.tmp rfl) .nil)) rfl ?_
      first | (rw [freeI_some (by omega) hall ‹_›]; exact ⟨rfl, rfl, rfl⟩) | (rw [freeI_none (fun j hj => hall j (by omega))]; exact ⟨rfl, rfl, rfl⟩)
    )
theorem taken_spec (h : List ArD) (at_ : Int) (bh : Nat) (E : TypeId) (I : Mem) (hw : WFh h) (hr : Rg at_) : Spec Tryd.prog 87 [.pointer (some ⟨bh, 0, none⟩), .int .i64 at_] I [(bh, .cells (hpCells h).toArray E (0, 0))] (fun v I' C' => v = .tuple [.bool (takenV h at_), .int .i64 (if blkOk at_ then 0 else 2)].toArray ∧ I' = I ∧ C' = [(bh, .cells (hpCells h).toArray E (0, 0))]) := by
  obtain ⟨a, ha⟩ : ∃ a, h[clsN at_]? = some a := ⟨_, List.getElem?_eq_getElem (by have := clsN_le at_; have := hw.len; omega)⟩
  have hc4 := clsN_le at_
  have hat := (hw.ok a (List.mem_of_getElem? ha)).1
  refine Spec.intro Tryd.func87 rfl rfl fun Γ => ?_
  show WC _ _ _ _ [] [(0, _), (1, _)] _ _ _
  refine WC.seq ?_
  refine WC.region ?_
  refine WL.assign rfl rfl ?_
  refine WL.assign rfl rfl ?_
  refine WL.nil ?_
  refine WE.then_normal ?_
  refine WC.seq ?_
  refine WC.seq ?_
  refine WC.region ?_
  refine WL.move rfl rfl ?_
  refine WL.call1 okF39_h rfl rfl (is_spec h bh E I) (fun v I1 C1 _ hv => ?_)
  obtain ⟨hv1, hv2, hv3⟩ := hv
  have hv2 := hv2.symm
  subst hv1; subst hv2; subst hv3
  refine WL.not rfl rfl ?_
  refine WL.nil ?_
  refine WE.then_normal ?_
  refine WC.condT rfl (fun h1 => ?_) (fun h1 => ?_)
  · try simp at h1
    try (exfalso; simp at *; done)
    all_goals (
      refine WC.seq ?_
      refine WC.region ?_
      refine WL.assign rfl rfl ?_
      refine WL.assign rfl rfl ?_
      refine WL.nil ?_
      refine WE.then_normal ?_
      refine WC.ret ?_
      refine WE.then_ret ?_
      refine WE.retCr rfl (.cons (.tmp rfl) (.cons (.tmp rfl) .nil)) rfl ?_
      first | (refine ⟨?_, rfl, rfl⟩; simp [tupleOf, takenV, ha, *]; done) | skip
    )
  · try simp at h1
    try (exfalso; simp at *; done)
    all_goals (
      refine WC.skip ?_
      refine WE.then_normal ?_
      refine WC.seq ?_
      refine WC.region ?_
      refine WL.move rfl rfl ?_
      refine WL.callV okF88_h rfl rfl (block_spec at_ I hr) ?_
      refine WL.move rfl rfl ?_
      refine WL.extract rfl rfl rfl ?_
      refine WL.extract rfl rfl rfl ?_
      refine WL.extract rfl rfl rfl ?_
      refine WL.assign rfl rfl ?_
      refine WL.assign rfl rfl ?_
      refine WL.assign rfl rfl ?_
      refine WL.nil ?_
      refine WE.then_normal ?_
      refine WC.seq ?_
      refine WC.seq ?_
      refine WC.region ?_
      refine WL.move rfl rfl ?_
      refine WL.not rfl rfl ?_
      refine WL.nil ?_
      refine WE.then_normal ?_
      refine WC.condT rfl (fun h2 => ?_) (fun h2 => ?_)
      · try simp at h2
        try (exfalso; simp at *; done)
        all_goals (
          refine WC.seq ?_
          refine WC.region ?_
          refine WL.assign rfl rfl ?_
          refine WL.assign rfl rfl ?_
          refine WL.nil ?_
          refine WE.then_normal ?_
          refine WC.ret ?_
          refine WE.then_ret ?_
          refine WE.retCr rfl (.cons (.tmp rfl) (.cons (.tmp rfl) .nil)) rfl ?_
          first | (refine ⟨?_, rfl, rfl⟩; simp [tupleOf, takenV, ha, *]; done) | skip
        )
      · try simp at h2
        try (exfalso; simp at *; done)
        all_goals (
          refine WC.skip ?_
          refine WE.then_normal ?_
          refine WC.seq ?_
          refine WC.region ?_
          obtain ⟨hbn, hb12⟩ := blkN_in (blkOk_in ‹_›)
          rw [hbn]
          refine WL.move rfl rfl ?_
          refine WL.move rfl rfl ?_
          refine WL.nilCheck rfl rfl ?_
          refine WL.fieldAddr rfl tF89_1_h rfl ?_
          refine WL.indexAddr_arr rfl rfl tAr87_h tS86_h rfl (by first | omega) ?_
          refine WL.fieldAddr rfl tF86_0_h rfl ?_
          refine WL.load_own 0 rfl rfl tA84_h (hp_t ha (by first | (simp; done) | (simp; omega))) rfl ?_
          refine WL.move rfl rfl ?_
          refine WL.shr rfl rfl rfl (by omega) ?_
          refine WL.bits rfl rfl rfl rfl ?_
          rw [shr_and (by omega) (by omega)]
          refine WL.arith rfl rfl rfl rfl ?_
          rw [bI_one]
          refine WL.assign rfl rfl ?_
          refine WL.assign rfl rfl ?_
          refine WL.nil ?_
          refine WE.then_normal ?_
          refine WC.ret ?_
          refine WE.retCr rfl (.cons (.tmp rfl) (.cons (.tmp rfl) .nil)) rfl ?_
          first | (refine ⟨?_, rfl, rfl⟩; simp [tupleOf, takenV, ha, *]; done) | skip
        )
    )
theorem give_spec (h : List ArD) (at_ : Int) (bh : Nat) (E : TypeId) (I : Mem) (hw : WFh h) (hr : Rg at_) : Spec Tryd.prog 84 [.pointer (some ⟨bh, 0, none⟩), .int .i64 at_] I [(bh, .cells (hpCells h).toArray E (0, 0))] (fun v I' C' => v = .int .i64 (giveE h at_) ∧ I' = I ∧ C' = [(bh, .cells (hpCells (giveH h at_)).toArray E (0, 0))]) := by
  obtain ⟨a, ha⟩ : ∃ a, h[clsN at_]? = some a := ⟨_, List.getElem?_eq_getElem (by have := clsN_le at_; have := hw.len; omega)⟩
  have hc4 := clsN_le at_
  have hat := (hw.ok a (List.mem_of_getElem? ha)).1
  refine Spec.intro Tryd.func84 rfl rfl fun Γ => ?_
  show WC _ _ _ _ [] [(0, _), (1, _)] _ _ _
  refine WC.seq ?_
  refine WC.region ?_
  refine WL.assign rfl rfl ?_
  refine WL.nil ?_
  refine WE.then_normal ?_
  refine WC.seq ?_
  refine WC.region ?_
  refine WL.move rfl rfl ?_
  refine WL.move rfl rfl ?_
  refine WL.callQ 0 okF87_h rfl rfl rfl (taken_spec h at_ bh E I hw hr) ?_
  refine WL.move rfl rfl ?_
  refine WL.extract rfl rfl rfl ?_
  refine WL.extract rfl rfl rfl ?_
  refine WL.assign rfl rfl ?_
  refine WL.assign rfl rfl ?_
  refine WL.nil ?_
  refine WE.then_normal ?_
  refine WC.seq ?_
  refine WC.seq ?_
  refine WC.region ?_
  refine WL.move rfl rfl ?_
  refine WL.arith rfl rfl rfl rfl ?_
  refine WL.nil ?_
  refine WE.then_normal ?_
  refine WC.condT rfl (fun h1 => ?_) (fun h1 => ?_)
  · try simp at h1
    all_goals (
      refine WC.seq ?_
      refine WC.region ?_
      refine WL.move rfl rfl ?_
      refine WL.assign rfl rfl ?_
      refine WL.nil ?_
      refine WE.then_normal ?_
      refine WC.ret ?_
      refine WE.then_ret ?_
      refine WE.retCr rfl (.cons (.tmp rfl) .nil) rfl ?_
      first | (have hb : blkOk at_ = false := ‹_›; have hnt : takenV h at_ = false := (by simp [takenV, ha, hb]); refine ⟨?_, rfl, ?_⟩ <;> simp [tupleOf, giveE, giveH, hb, hnt]; done) | (have hnt : takenV h at_ = false := ‹_›; have hb : blkOk at_ = true := ‹_›; refine ⟨?_, rfl, ?_⟩ <;> simp [tupleOf, giveE, giveH, hb, hnt]; done) | (refine ⟨?_, rfl, ?_⟩ <;> simp [tupleOf, giveE, giveH, ha, hok, htk]; done)
    )
  · try simp at h1
    all_goals (
      refine WC.skip ?_
      refine WE.then_normal ?_
      refine WC.seq ?_
      refine WC.seq ?_
      refine WC.region ?_
      refine WL.move rfl rfl ?_
      refine WL.not rfl rfl ?_
      refine WL.nil ?_
      refine WE.then_normal ?_
      refine WC.condT rfl (fun h2 => ?_) (fun h2 => ?_)
      · try simp at h2
        all_goals (
          refine WC.seq ?_
          refine WC.region ?_
          refine WL.assign rfl rfl ?_
          refine WL.nil ?_
          refine WE.then_normal ?_
          refine WC.ret ?_
          refine WE.then_ret ?_
          refine WE.retCr rfl (.cons (.tmp rfl) .nil) rfl ?_
          first | (have hb : blkOk at_ = false := ‹_›; have hnt : takenV h at_ = false := (by simp [takenV, ha, hb]); refine ⟨?_, rfl, ?_⟩ <;> simp [tupleOf, giveE, giveH, hb, hnt]; done) | (have hnt : takenV h at_ = false := ‹_›; have hb : blkOk at_ = true := ‹_›; refine ⟨?_, rfl, ?_⟩ <;> simp [tupleOf, giveE, giveH, hb, hnt]; done) | (refine ⟨?_, rfl, ?_⟩ <;> simp [tupleOf, giveE, giveH, ha, hok, htk]; done)
        )
      · try simp at h2
        all_goals (
          refine WC.skip ?_
          refine WE.then_normal ?_
          refine WC.seq ?_
          refine WC.region ?_
          refine WL.move rfl rfl ?_
          refine WL.callV okF88_h rfl rfl (block_spec at_ I hr) ?_
          refine WL.move rfl rfl ?_
          refine WL.extract rfl rfl rfl ?_
          refine WL.extract rfl rfl rfl ?_
          refine WL.extract rfl rfl rfl ?_
          refine WL.assign rfl rfl ?_
          refine WL.assign rfl rfl ?_
          refine WL.assign rfl rfl ?_
          refine WL.nil ?_
          refine WE.then_normal ?_
          refine WC.seq ?_
          refine WC.region_tail 14 tMixed_h (by kernel_rfl) rfl rfl ?_
          have hok : blkOk at_ = true := by assumption
          have htk : takenV h at_ = true := by assumption
          obtain ⟨hbn, hb12⟩ := blkN_in (blkOk_in hok)
          rw [hbn]
          refine WL.move rfl rfl ?_
          refine WL.move rfl rfl ?_
          refine WL.nilCheck rfl rfl ?_
          refine WL.fieldAddr rfl tF89_1_h rfl ?_
          refine WL.indexAddr_arr rfl rfl tAr87_h tS86_h rfl (by first | omega) ?_
          refine WL.fieldAddr rfl tF86_0_h rfl ?_
          refine WL.load_own 0 rfl rfl tA84_h (hp_t ha (by first | (simp; done) | (simp; omega))) rfl ?_
          refine WL.move rfl rfl ?_
          refine WL.shl rfl rfl rfl (by omega) ?_
          rw [shl_u16 hb12]
          refine WL.bits rfl rfl rfl rfl ?_
          rw [andNot_u16]
          refine WL.nilCheck rfl rfl ?_
          refine WL.fieldAddr rfl tF89_1_h rfl ?_
          refine WL.indexAddr_arr rfl rfl tAr87_h tS86_h rfl (by first | omega) ?_
          refine WL.fieldAddr rfl tF86_0_h rfl ?_
          refine WL.nil ?_
          refine WE.tail ?_
          refine WL.store_at 0 rfl rfl rfl rfl tS84_h rfl rfl (by rw [hp_len, hw.len]; simp; omega) rfl ?_
          refine WL.nil ?_
          refine WE.then_normal ?_
          refine WC.seq ?_
          refine WC.region ?_
          rw [hp_setT ha (by first | (simp; done) | (simp; omega))]
          refine WL.assign rfl rfl ?_
          refine WL.nil ?_
          refine WE.then_normal ?_
          refine WC.ret ?_
          refine WE.retCr rfl (.cons (.tmp rfl) .nil) rfl ?_
          first | (have hb : blkOk at_ = false := ‹_›; have hnt : takenV h at_ = false := (by simp [takenV, ha, hb]); refine ⟨?_, rfl, ?_⟩ <;> simp [tupleOf, giveE, giveH, hb, hnt]; done) | (have hnt : takenV h at_ = false := ‹_›; have hb : blkOk at_ = true := ‹_›; refine ⟨?_, rfl, ?_⟩ <;> simp [tupleOf, giveE, giveH, hb, hnt]; done) | (refine ⟨?_, rfl, ?_⟩ <;> simp [tupleOf, giveE, giveH, ha, hok, htk]; done)
        )
    )
theorem take_spec (h : List ArD) (k : Nat) (bh : Nat) (E : TypeId) (I : Mem) (hw : WFh h) (hk : k < 5) : Spec Tryd.prog 66 [.pointer (some ⟨bh, 0, none⟩), .int .i64 (k : Int)] I [(bh, .cells (hpCells h).toArray E (0, 0))] (fun v I' C' => v = .tuple [.int .i64 (takeH h k).2.1, .int .i64 (takeH h k).2.2].toArray ∧ I' = I ∧ C' = [(bh, .cells (hpCells (takeH h k).1).toArray E (0, 0))]) := by
  obtain ⟨a, ha⟩ : ∃ a, h[k]? = some a := ⟨_, List.getElem?_eq_getElem (by have := hw.len; omega)⟩
  have hat := (hw.ok a (List.mem_of_getElem? ha)).1
  have hbv := baseV_rg (k := k) (by omega)
  refine Spec.intro Tryd.func66 rfl rfl fun Γ => ?_
  show WC _ _ _ _ [] [(0, _), (1, _)] _ _ _
  refine WC.seq ?_
  refine WC.region ?_
  refine WL.assign rfl rfl ?_
  refine WL.assign rfl rfl ?_
  refine WL.nil ?_
  refine WE.then_normal ?_
  refine WC.seq ?_
  refine WC.block ?_
  refine WC.seq ?_
  refine WC.region ?_
  refine WL.move rfl rfl ?_
  refine WL.callQ 0 okF39_h rfl rfl rfl (is_spec h bh E I) ?_
  refine WL.not rfl rfl ?_
  refine WL.assign rfl rfl ?_
  refine WL.nil ?_
  refine WE.then_normal ?_
  refine WC.condT rfl (fun h1 => ?_) (fun h1 => ?_)
  · try simp at h1
    try (exfalso; first | omega | (simp at *; done))
    all_goals (
      refine WC.seq ?_
      refine WC.region ?_
      refine WL.assign rfl rfl ?_
      refine WL.assign rfl rfl ?_
      refine WL.nil ?_
      refine WE.then_normal ?_
      refine WC.ret ?_
      refine WE.block_ret ?_
      refine WE.then_ret ?_
      refine WE.retCr rfl (.cons (.tmp rfl) (.cons (.tmp rfl) .nil)) rfl ?_
      first | (refine ⟨?_, rfl, ?_⟩ <;> simp [tupleOf, takeH, takeA, ha, hfi]; done) | (have hfn : freeI a.taken = none := (by simpa using ‹_›); refine ⟨?_, rfl, ?_⟩ <;> simp [tupleOf, takeH, ha, hfn]; done) | skip
    )
  · try simp at h1
    try (exfalso; first | omega | (simp at *; done))
    all_goals (
      refine WC.seq ?_
      refine WC.region ?_
      refine WL.move rfl rfl ?_
      refine WL.arith rfl rfl rfl rfl ?_
      refine WL.move rfl rfl ?_
      refine WL.split 16 rfl (fun h2 => ?_) (fun h2 => ?_)
      · try simp at h2
        try (exfalso; first | omega | (simp at *; done))
        all_goals (
          refine WL.guard_no rfl rfl rfl rfl ?_
          refine WL.guard_no rfl rfl rfl rfl ?_
          refine WL.pick_true rfl rfl rfl ?_
          refine WL.assign rfl rfl ?_
          refine WL.nil ?_
          refine WE.then_normal ?_
          refine WC.cond_true rfl ?_
          refine WC.seq ?_
          refine WC.region ?_
          refine WL.assign rfl rfl ?_
          refine WL.assign rfl rfl ?_
          refine WL.nil ?_
          refine WE.then_normal ?_
          refine WC.ret ?_
          refine WE.block_ret ?_
          refine WE.then_ret ?_
          refine WE.retCr rfl (.cons (.tmp rfl) (.cons (.tmp rfl) .nil)) rfl ?_
          first | (refine ⟨?_, rfl, ?_⟩ <;> simp [tupleOf, takeH, takeA, ha, hfi]; done) | (have hfn : freeI a.taken = none := (by simpa using ‹_›); refine ⟨?_, rfl, ?_⟩ <;> simp [tupleOf, takeH, ha, hfn]; done) | skip
        )
      · try simp at h2
        try (exfalso; first | omega | (simp at *; done))
        all_goals (
          refine WL.guard_yes rfl rfl ?_
          refine WL.move rfl rfl ?_
          refine WL.guard_yes rfl rfl ?_
          refine WL.arith rfl rfl rfl rfl ?_
          refine WL.pick_false rfl rfl rfl ?_
          refine WL.assign rfl rfl ?_
          refine WL.nil ?_
          refine WE.then_normal ?_
          refine WC.condT rfl (fun h3 => ?_) (fun h3 => ?_)
          · try simp at h3
            try (exfalso; first | omega | (simp at *; done))
            all_goals (
              refine WC.seq ?_
              refine WC.region ?_
              refine WL.assign rfl rfl ?_
              refine WL.assign rfl rfl ?_
              refine WL.nil ?_
              refine WE.then_normal ?_
              refine WC.ret ?_
              refine WE.block_ret ?_
              refine WE.then_ret ?_
              refine WE.retCr rfl (.cons (.tmp rfl) (.cons (.tmp rfl) .nil)) rfl ?_
              first | (refine ⟨?_, rfl, ?_⟩ <;> simp [tupleOf, takeH, takeA, ha, hfi]; done) | (have hfn : freeI a.taken = none := (by simpa using ‹_›); refine ⟨?_, rfl, ?_⟩ <;> simp [tupleOf, takeH, ha, hfn]; done) | skip
            )
          · try simp at h3
            try (exfalso; first | omega | (simp at *; done))
            all_goals (
              refine WC.skip ?_
              refine WE.block_normal ?_
              refine WE.then_normal ?_
              refine WC.seq ?_
              refine WC.region ?_
              refine WL.move rfl rfl ?_
              refine WL.move rfl rfl ?_
              refine WL.nilCheck rfl rfl ?_
              refine WL.fieldAddr rfl tF89_1_h rfl ?_
              refine WL.indexAddr_arr rfl rfl tAr87_h tS86_h rfl (by first | omega) ?_
              refine WL.assign rfl rfl ?_
              refine WL.nil ?_
              refine WE.then_normal ?_
              refine WC.seq ?_
              refine WC.region ?_
              refine WL.move rfl rfl ?_
              refine WL.callQ 0 okF83_h rfl rfl rfl (free_spec a.taken bh _ _ E (0, 0) I hat (hp_t ha (by first | (simp; done) | (simp; omega)))) ?_
              refine WL.move rfl rfl ?_
              refine WL.extract rfl rfl rfl ?_
              refine WL.extract rfl rfl rfl ?_
              refine WL.assign rfl rfl ?_
              refine WL.assign rfl rfl ?_
              refine WL.nil ?_
              refine WE.then_normal ?_
              refine WC.seq ?_
              refine WC.seq ?_
              refine WC.region ?_
              refine WL.move rfl rfl ?_
              refine WL.not rfl rfl ?_
              refine WL.nil ?_
              refine WE.then_normal ?_
              refine WC.condT rfl (fun h4 => ?_) (fun h4 => ?_)
              · try simp at h4
                try (exfalso; first | omega | (simp at *; done))
                all_goals (
                  refine WC.seq ?_
                  refine WC.region ?_
                  refine WL.assign rfl rfl ?_
                  refine WL.assign rfl rfl ?_
                  refine WL.nil ?_
                  refine WE.then_normal ?_
                  refine WC.ret ?_
                  refine WE.then_ret ?_
                  refine WE.retCr rfl (.cons (.tmp rfl) (.cons (.tmp rfl) .nil)) rfl ?_
                  first | (refine ⟨?_, rfl, ?_⟩ <;> simp [tupleOf, takeH, takeA, ha, hfi]; done) | (have hfn : freeI a.taken = none := (by simpa using ‹_›); refine ⟨?_, rfl, ?_⟩ <;> simp [tupleOf, takeH, ha, hfn]; done) | skip
                )
              · try simp at h4
                try (exfalso; first | omega | (simp at *; done))
                all_goals (
                  refine WC.skip ?_
                  refine WE.then_normal ?_
                  refine WC.seq ?_
                  refine WC.region_tail 9 tMixed_h (by kernel_rfl) rfl rfl ?_
                  obtain ⟨i, hfi⟩ := Option.isSome_iff_exists.1 ‹_›
                  obtain ⟨hi12, hbi⟩ := freeI_lt hfi
                  have hsh := shl_rg hi12 hk
                  rw [hfi, Option.getD_some]
                  refine WL.move rfl rfl ?_
                  refine WL.nilCheck rfl rfl ?_
                  refine WL.fieldAddr rfl tF86_0_h rfl ?_
                  refine WL.load_own 0 rfl rfl tA84_h (hp_t ha (by first | (simp; done) | (simp; omega))) rfl ?_
                  refine WL.move rfl rfl ?_
                  refine WL.shl rfl rfl rfl (by omega) ?_
                  rw [shl_u16 hi12]
                  refine WL.bits rfl rfl rfl rfl ?_
                  rw [or_u16 (by omega) (pow12 hi12)]
                  refine WL.nilCheck rfl rfl ?_
                  refine WL.fieldAddr rfl tF86_0_h rfl ?_
                  refine WL.nil ?_
                  refine WE.tail ?_
                  refine WL.store_at 0 rfl rfl rfl rfl tS84_h rfl rfl (by rw [hp_len, hw.len]; simp; omega) rfl ?_
                  refine WL.nil ?_
                  refine WE.then_normal ?_
                  refine WC.seq ?_
                  refine WC.region_tail 10 tMixed_h (by kernel_rfl) rfl rfl ?_
                  rw [hp_setT ha (by first | (simp; done) | (simp; omega))]
                  refine WL.move rfl rfl ?_
                  refine WL.move rfl rfl ?_
                  refine WL.nilCheck rfl rfl ?_
                  refine WL.fieldAddr rfl tF86_1_h rfl ?_
                  refine WL.load_own 0 rfl rfl tA3_h (hp_m (set_get ha) (by first | (simp; done) | (simp; omega))) rfl ?_
                  refine WL.move rfl rfl ?_
                  refine WL.callQ 0 okF40_h rfl rfl rfl (count_spec (a.taken ||| 2 ^ i) bh _ _ E (0, 0) I (or_lt hat hi12) (hp_t (set_get ha) (by first | (simp; done) | (simp; omega)))) ?_
                  refine WL.max_int rfl rfl rfl ?_
                  refine WL.nilCheck rfl rfl ?_
                  refine WL.fieldAddr rfl tF86_1_h rfl ?_
                  refine WL.nil ?_
                  refine WE.tail ?_
                  refine WL.store_at 0 rfl rfl rfl rfl tS3_h rfl rfl (by rw [hp_len, List.length_set, hw.len]; simp; omega) rfl ?_
                  refine WL.nil ?_
                  refine WE.then_normal ?_
                  refine WC.seq ?_
                  refine WC.region_draw tMixed_h (by kernel_rfl) ?_
                  rw [hp_setM (set_get ha) (by first | (simp; done) | (simp; omega)), List.set_set]
                  refine WL.move rfl rfl ?_
                  refine WL.callV okF36_h rfl rfl (base_spec k I (by omega)) ?_
                  refine WL.move rfl rfl ?_
                  refine WL.move rfl rfl ?_
                  refine WL.shl rfl rfl rfl (by omega) ?_
                  rw [shl_i64 hi12 hk]
                  first | refine WL.add rfl rfl (by omega) rfl ?_ | refine WL.arith rfl rfl rfl rfl ?_
                  refine WL.assign rfl rfl ?_
                  refine WL.assign rfl rfl ?_
                  refine WL.nil ?_
                  refine WE.then_normal ?_
                  refine WC.ret ?_
                  refine WE.retCr rfl (.cons (.tmp rfl) (.cons (.tmp rfl) .nil)) rfl ?_
                  first | (refine ⟨?_, rfl, ?_⟩ <;> simp [tupleOf, takeH, takeA, ha, hfi]; done) | (have hfn : freeI a.taken = none := (by simpa using ‹_›); refine ⟨?_, rfl, ?_⟩ <;> simp [tupleOf, takeH, ha, hfn]; done) | skip
                )
            )
        )
    )
theorem heapNew_spec (I : Mem) : Spec Tryd.prog 23 [] I [] (fun v I' C' => I' = I ∧ ∃ b, v = .pointer (some ⟨b, 0, none⟩) ∧ C' = [(b, .cells (hpCells heap0).toArray 89 (0, 0))]) := by
  refine Spec.intro Tryd.func23 rfl rfl fun Γ => ?_
  show WC _ _ _ _ [] [] _ _ _
  refine WC.seq ?_
  refine WC.region ?_
  refine WL.assign rfl rfl ?_
  refine WL.nil ?_
  refine WE.then_normal ?_
  refine WC.seq ?_
  refine WC.region ?_
  refine WL.build_struct rfl tZ89_h tSt89_h rfl rfl rfl ?_
  refine WL.box rfl rfl rfl (fun b1 => ?_)
  refine WL.assign rfl rfl ?_
  refine WL.nil ?_
  refine WE.then_normal ?_
  refine WC.ret ?_
  refine WE.retCr rfl (.cons (.tmp rfl) .nil) rfl ?_
  exact ⟨rfl, b1, rfl, rfl⟩
theorem heapCopy_spec (h : List ArD) (bh : Nat) (E : TypeId) (I : Mem) (hw : WFh h) : Spec Tryd.prog 28 [.pointer (some ⟨bh, 0, none⟩)] I [(bh, .cells (hpCells h).toArray E (0, 0))] (fun v I' C' => I' = I ∧ ∃ b, v = .pointer (some ⟨b, 0, none⟩) ∧ C' = [(b, .cells (hpCells h).toArray 89 (0, 0)), (bh, .cells (hpCells h).toArray E (0, 0))]) := by
  obtain ⟨a0, a1, a2, a3, a4, rfl⟩ := five hw.len
  refine Spec.intro Tryd.func28 rfl rfl fun Γ => ?_
  show WC _ _ _ _ [] [(0, _)] _ _ _
  refine WC.seq ?_
  refine WC.region ?_
  refine WL.assign rfl rfl ?_
  refine WL.nil ?_
  refine WE.then_normal ?_
  refine WC.seq ?_
  refine WC.seq ?_
  refine WC.region ?_
  refine WL.move rfl rfl ?_
  refine WL.callQ 0 okF39_h rfl rfl rfl (is_spec _ bh E I) ?_
  refine WL.not rfl rfl ?_
  refine WL.nil ?_
  refine WE.then_normal ?_
  refine WC.condT rfl (fun h1 => ?_) (fun h1 => ?_)
  · try simp only [decide_eq_true_eq, decide_eq_false_iff_not, beq_iff_eq, bne_iff_ne, ne_eq, beq_eq_false_iff_ne, bne_eq_false_iff_eq, Bool.not_eq_true', Bool.not_eq_false', gt_iff_lt, ge_iff_le] at h1
    try (exfalso; simp at *; done)
    all_goals (
      refine WC.seq ?_
      refine WC.region ?_
      refine WL.assign rfl rfl ?_
      refine WL.nil ?_
      refine WE.then_normal ?_
      refine WC.ret ?_
      refine WE.then_ret ?_
      skip
    )
  · try simp only [decide_eq_true_eq, decide_eq_false_iff_not, beq_iff_eq, bne_iff_ne, ne_eq, beq_eq_false_iff_ne, bne_eq_false_iff_eq, Bool.not_eq_true', Bool.not_eq_false', gt_iff_lt, ge_iff_le] at h1
    try (exfalso; simp at *; done)
    all_goals (
      refine WC.skip ?_
      refine WE.then_normal ?_
      refine WC.seq ?_
      refine WC.region ?_
      refine WL.move rfl rfl ?_
      refine WL.nilCheck rfl rfl ?_
      refine WL.load_own_agg 0 rfl rfl tA89_h tS89_h rfl rfl ?_
      refine WL.alloc tZ89_h rfl rfl (fun b2 => ?_)
      refine WL.store 0 rfl rfl rfl rfl tS89_h rfl rfl rfl rfl rfl ?_
      refine WL.nil ?_
      refine WE.then_normal ?_
      refine WC.seq ?_
      refine WC.region ?_
      refine WL.assign rfl rfl ?_
      refine WL.nil ?_
      refine WE.then_normal ?_
      refine WC.ret ?_
      refine WE.perm (fun w hs => hs.join) ?_
      refine WE.retCr rfl (.cons (.tmp rfl) .nil) rfl ?_
      exact ⟨rfl, b2, rfl, rfl⟩
    )
theorem counts_spec (h : List ArD) (bh : Nat) (E : TypeId) (I : Mem) (hw : WFh h) : Spec Tryd.prog 30 [.pointer (some ⟨bh, 0, none⟩)] I [(bh, .cells (hpCells h).toArray E (0, 0))] (fun v I' C' => I' = I ∧ ∃ A cap Cn, v = .slice A 5 cap ∧ SlO 1 (countsL h) A cap Cn ∧ C' = Cn ++ [(bh, .cells (hpCells h).toArray E (0, 0))]) := by
  obtain ⟨a0, a1, a2, a3, a4, rfl⟩ := five hw.len
  have ht : ∀ a ∈ [a0, a1, a2, a3, a4], a.taken < 4096 := fun a ha => (hw.ok a ha).1
  refine Spec.intro Tryd.func30 rfl rfl fun Γ => ?_
  show WC _ _ _ _ [] [(0, _)] _ _ _
  refine WC.seq ?_
  refine WC.region ?_
  refine WL.assign rfl rfl ?_
  refine WL.nil ?_
  refine WE.then_normal ?_
  refine WC.seq ?_
  refine WC.seq ?_
  refine WC.region ?_
  refine WL.move rfl rfl ?_
  refine WL.callQ 0 okF39_h rfl rfl rfl (is_spec _ bh E I) ?_
  refine WL.not rfl rfl ?_
  refine WL.nil ?_
  refine WE.then_normal ?_
  refine WC.condT rfl (fun h1 => ?_) (fun h1 => ?_)
  · try simp only [decide_eq_true_eq, decide_eq_false_iff_not, beq_iff_eq, bne_iff_ne, ne_eq, beq_eq_false_iff_ne, bne_eq_false_iff_eq, Bool.not_eq_true', Bool.not_eq_false', gt_iff_lt, ge_iff_le] at h1
    try (exfalso; simp at *; done)
    all_goals (
      refine WC.seq ?_
      refine WC.region ?_
      refine WL.assign rfl rfl ?_
      refine WL.nil ?_
      refine WE.then_normal ?_
      refine WC.ret ?_
      refine WE.then_ret ?_
      skip
    )
  · try simp only [decide_eq_true_eq, decide_eq_false_iff_not, beq_iff_eq, bne_iff_ne, ne_eq, beq_eq_false_iff_ne, bne_eq_false_iff_eq, Bool.not_eq_true', Bool.not_eq_false', gt_iff_lt, ge_iff_le] at h1
    try (exfalso; simp at *; done)
    all_goals (
      refine WC.skip ?_
      refine WE.then_normal ?_
      refine WC.seq ?_
      refine WC.region ?_
      refine WL.perm (fun _ hs => hs.nilTop) ?_
      have hSL := SlO.nil 1
      refine WL.assign rfl rfl ?_
      refine WL.nil ?_
      refine WE.then_normal ?_
      refine WC.seq ?_
      refine WC.seq ?_
      refine WC.region ?_
      refine WL.move rfl rfl ?_
      refine WL.nilCheck rfl rfl ?_
      refine WL.fieldAddr rfl tF89_1_h rfl ?_
      refine WL.load_own_agg 1 rfl rfl tA87_h tS87_h rfl rfl ?_
      refine WL.move rfl rfl ?_
      refine WL.nil ?_
      refine WE.then_normal ?_
      refine WC.block ?_
      refine WC.rounds 6 ?_
      refine WRo.step ?_
      refine WC.seq ?_
      refine WC.region ?_
      refine WL.arith rfl rfl rfl rfl ?_
      refine WL.nil ?_
      refine WE.then_normal ?_
      refine WC.seq ?_
      refine WC.cond_true rfl ?_
      refine WC.skip ?_
      refine WE.then_normal ?_
      refine WC.seq ?_
      refine WC.block ?_
      refine WC.seq ?_
      refine WC.region ?_
      refine WL.index_arr_agg rfl rfl tAr87_h tS86_h tA86_h rfl (by first | omega) rfl ?_
      refine WL.alloc tZ86_h rfl rfl (fun b2 => ?_)
      refine WL.store 0 rfl rfl rfl rfl tS86_h rfl rfl rfl rfl rfl ?_
      refine WL.nil ?_
      refine WE.then_normal ?_
      refine WC.region ?_
      refine WL.move rfl rfl ?_
      refine WL.callQ 0 okF40_h rfl rfl rfl (count_spec a0.taken _ _ _ _ _ I (ht _ (by simp)) rfl) ?_
      refine WL.buildSlice_lit rfl tE47_h tS3_h tZ3_h rfl rfl rfl rfl rfl rfl rfl (fun b3 => ?_)
      refine WL.append_own 2 rfl rfl tE47_h tS3_h tB3_h tZ3_h rfl rfl rfl (fun C' => rfl) hSL rfl (.slice tE47_h (AtW.lit (k := 0) rfl) rfl rfl) (by omega) (by omega) rfl (fun A' cap' C' hC' => ?_)
      clear hSL
      have hSL := hC'
      clear hC'
      refine WL.assign rfl rfl ?_
      refine WL.nil ?_
      refine WE.block_normal ?_
      refine WE.then_normal ?_
      refine WC.region ?_
      first | refine WL.add rfl rfl (by omega) rfl ?_ | refine WL.arith rfl rfl rfl rfl ?_
      refine WL.move rfl rfl ?_
      refine WL.nil ?_
      refine WE.then_rounds ?_
      refine WRo.step ?_
      refine WC.seq ?_
      refine WC.region ?_
      refine WL.arith rfl rfl rfl rfl ?_
      refine WL.nil ?_
      refine WE.then_normal ?_
      refine WC.seq ?_
      refine WC.cond_true rfl ?_
      refine WC.skip ?_
      refine WE.then_normal ?_
      refine WC.seq ?_
      refine WC.block ?_
      refine WC.seq ?_
      refine WC.region ?_
      refine WL.index_arr_agg rfl rfl tAr87_h tS86_h tA86_h rfl (by first | omega) rfl ?_
      refine WL.alloc tZ86_h rfl rfl (fun b4 => ?_)
      refine WL.store 0 rfl rfl rfl rfl tS86_h rfl rfl rfl rfl rfl ?_
      refine WL.nil ?_
      refine WE.then_normal ?_
      refine WC.region ?_
      refine WL.move rfl rfl ?_
      refine WL.callQ 0 okF40_h rfl rfl rfl (count_spec a1.taken _ _ _ _ _ I (ht _ (by simp)) rfl) ?_
      refine WL.buildSlice_lit rfl tE47_h tS3_h tZ3_h rfl rfl rfl rfl rfl rfl rfl (fun b5 => ?_)
      refine WL.append_own 4 rfl rfl tE47_h tS3_h tB3_h tZ3_h rfl rfl rfl (fun C' => rfl) hSL rfl (.slice tE47_h (AtW.lit (k := 0) rfl) rfl rfl) (by omega) (by omega) rfl (fun A' cap' C' hC' => ?_)
      clear hSL
      have hSL := hC'
      clear hC'
      refine WL.assign rfl rfl ?_
      refine WL.nil ?_
      refine WE.block_normal ?_
      refine WE.then_normal ?_
      refine WC.region ?_
      first | refine WL.add rfl rfl (by omega) rfl ?_ | refine WL.arith rfl rfl rfl rfl ?_
      refine WL.move rfl rfl ?_
      refine WL.nil ?_
      refine WE.then_rounds ?_
      refine WRo.step ?_
      refine WC.seq ?_
      refine WC.region ?_
      refine WL.arith rfl rfl rfl rfl ?_
      refine WL.nil ?_
      refine WE.then_normal ?_
      refine WC.seq ?_
      refine WC.cond_true rfl ?_
      refine WC.skip ?_
      refine WE.then_normal ?_
      refine WC.seq ?_
      refine WC.block ?_
      refine WC.seq ?_
      refine WC.region ?_
      refine WL.index_arr_agg rfl rfl tAr87_h tS86_h tA86_h rfl (by first | omega) rfl ?_
      refine WL.alloc tZ86_h rfl rfl (fun b6 => ?_)
      refine WL.store 0 rfl rfl rfl rfl tS86_h rfl rfl rfl rfl rfl ?_
      refine WL.nil ?_
      refine WE.then_normal ?_
      refine WC.region ?_
      refine WL.move rfl rfl ?_
      refine WL.callQ 0 okF40_h rfl rfl rfl (count_spec a2.taken _ _ _ _ _ I (ht _ (by simp)) rfl) ?_
      refine WL.buildSlice_lit rfl tE47_h tS3_h tZ3_h rfl rfl rfl rfl rfl rfl rfl (fun b7 => ?_)
      refine WL.append_own 6 rfl rfl tE47_h tS3_h tB3_h tZ3_h rfl rfl rfl (fun C' => rfl) hSL rfl (.slice tE47_h (AtW.lit (k := 0) rfl) rfl rfl) (by omega) (by omega) rfl (fun A' cap' C' hC' => ?_)
      clear hSL
      have hSL := hC'
      clear hC'
      refine WL.assign rfl rfl ?_
      refine WL.nil ?_
      refine WE.block_normal ?_
      refine WE.then_normal ?_
      refine WC.region ?_
      first | refine WL.add rfl rfl (by omega) rfl ?_ | refine WL.arith rfl rfl rfl rfl ?_
      refine WL.move rfl rfl ?_
      refine WL.nil ?_
      refine WE.then_rounds ?_
      refine WRo.step ?_
      refine WC.seq ?_
      refine WC.region ?_
      refine WL.arith rfl rfl rfl rfl ?_
      refine WL.nil ?_
      refine WE.then_normal ?_
      refine WC.seq ?_
      refine WC.cond_true rfl ?_
      refine WC.skip ?_
      refine WE.then_normal ?_
      refine WC.seq ?_
      refine WC.block ?_
      refine WC.seq ?_
      refine WC.region ?_
      refine WL.index_arr_agg rfl rfl tAr87_h tS86_h tA86_h rfl (by first | omega) rfl ?_
      refine WL.alloc tZ86_h rfl rfl (fun b8 => ?_)
      refine WL.store 0 rfl rfl rfl rfl tS86_h rfl rfl rfl rfl rfl ?_
      refine WL.nil ?_
      refine WE.then_normal ?_
      refine WC.region ?_
      refine WL.move rfl rfl ?_
      refine WL.callQ 0 okF40_h rfl rfl rfl (count_spec a3.taken _ _ _ _ _ I (ht _ (by simp)) rfl) ?_
      refine WL.buildSlice_lit rfl tE47_h tS3_h tZ3_h rfl rfl rfl rfl rfl rfl rfl (fun b9 => ?_)
      refine WL.append_own 8 rfl rfl tE47_h tS3_h tB3_h tZ3_h rfl rfl rfl (fun C' => rfl) hSL rfl (.slice tE47_h (AtW.lit (k := 0) rfl) rfl rfl) (by omega) (by omega) rfl (fun A' cap' C' hC' => ?_)
      clear hSL
      have hSL := hC'
      clear hC'
      refine WL.assign rfl rfl ?_
      refine WL.nil ?_
      refine WE.block_normal ?_
      refine WE.then_normal ?_
      refine WC.region ?_
      first | refine WL.add rfl rfl (by omega) rfl ?_ | refine WL.arith rfl rfl rfl rfl ?_
      refine WL.move rfl rfl ?_
      refine WL.nil ?_
      refine WE.then_rounds ?_
      refine WRo.step ?_
      refine WC.seq ?_
      refine WC.region ?_
      refine WL.arith rfl rfl rfl rfl ?_
      refine WL.nil ?_
      refine WE.then_normal ?_
      refine WC.seq ?_
      refine WC.cond_true rfl ?_
      refine WC.skip ?_
      refine WE.then_normal ?_
      refine WC.seq ?_
      refine WC.block ?_
      refine WC.seq ?_
      refine WC.region ?_
      refine WL.index_arr_agg rfl rfl tAr87_h tS86_h tA86_h rfl (by first | omega) rfl ?_
      refine WL.alloc tZ86_h rfl rfl (fun b10 => ?_)
      refine WL.store 0 rfl rfl rfl rfl tS86_h rfl rfl rfl rfl rfl ?_
      refine WL.nil ?_
      refine WE.then_normal ?_
      refine WC.region ?_
      refine WL.move rfl rfl ?_
      refine WL.callQ 0 okF40_h rfl rfl rfl (count_spec a4.taken _ _ _ _ _ I (ht _ (by simp)) rfl) ?_
      refine WL.buildSlice_lit rfl tE47_h tS3_h tZ3_h rfl rfl rfl rfl rfl rfl rfl (fun b11 => ?_)
      refine WL.append_own 10 rfl rfl tE47_h tS3_h tB3_h tZ3_h rfl rfl rfl (fun C' => rfl) hSL rfl (.slice tE47_h (AtW.lit (k := 0) rfl) rfl rfl) (by omega) (by omega) rfl (fun A' cap' C' hC' => ?_)
      clear hSL
      have hSL := hC'
      clear hC'
      refine WL.assign rfl rfl ?_
      refine WL.nil ?_
      refine WE.block_normal ?_
      refine WE.then_normal ?_
      refine WC.region ?_
      first | refine WL.add rfl rfl (by omega) rfl ?_ | refine WL.arith rfl rfl rfl rfl ?_
      refine WL.move rfl rfl ?_
      refine WL.nil ?_
      refine WE.then_rounds ?_
      refine WRo.step ?_
      refine WC.seq ?_
      refine WC.region ?_
      refine WL.arith rfl rfl rfl rfl ?_
      refine WL.nil ?_
      refine WE.then_normal ?_
      refine WC.seq ?_
      refine WC.cond_false rfl ?_
      refine WC.exit ?_
      refine WE.then_exit ?_
      refine WE.then_exit ?_
      refine WE.block_exit ?_
      refine WE.then_normal ?_
      refine WC.seq ?_
      refine WC.region ?_
      refine WL.move rfl rfl ?_
      refine WL.assign rfl rfl ?_
      refine WL.nil ?_
      refine WE.then_normal ?_
      refine WC.ret ?_
      refine WE.pick [10, 11] rfl rfl ?_
      refine WE.perm (fun w hs => hs.join) ?_
      refine WE.retCr rfl (.cons (.tmp rfl) .nil) rfl ?_
      exact ⟨rfl, _, _, _, rfl, hSL, rfl⟩
    )
end Go.Proofs.YtddkkmdbolgnlaaDoor.Fw
