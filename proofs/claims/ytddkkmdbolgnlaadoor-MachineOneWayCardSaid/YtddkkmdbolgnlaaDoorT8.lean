/- A part of the proof: steps of the walk and laws that the claim's theorem rests on; each lemma states its own conditions. -/
import Derived.Test.YtddkkmdbolgnlaaDoorT9
import Derived.Test.YtddkkmdbolgnlaaDoorT7
import Derived.Test.YtddkkmdbolgnlaaDoorProg
set_option linter.unusedVariables false
set_option linter.unusedSimpArgs false
namespace Go.Proofs.YtddkkmdbolgnlaaDoor.Fw
open Go.Proofs
set_option maxRecDepth 100000
set_option linter.unusedVariables false
set_option linter.unusedSimpArgs false
theorem tZ117_d : zeroT Tryd.prog 117 = some (.agg [(.bool false), (.bool false), (.bool false), (.bool false)].toArray) := by kernel_rfl
theorem tAr117_d : arrT Tryd.prog 117 = some (4, 4) := by kernel_rfl
theorem tS4_d : szT Tryd.prog 4 = some 1 := by kernel_rfl
theorem tA117_d : aggT Tryd.prog 117 = some true := by kernel_rfl
theorem tS117_d : szT Tryd.prog 117 = some 4 := by kernel_rfl
theorem tZ119_d : zeroT Tryd.prog 119 = some (.agg [(.int .i64 0), (.int .i64 0), (.int .i64 0), (.int .i64 0)].toArray) := by kernel_rfl
theorem tF75_1_d : offT Tryd.prog 75 1 = some 1 := by kernel_rfl
theorem tA3_d : aggT Tryd.prog 3 = some false := by kernel_rfl
theorem tF75_2_d : offT Tryd.prog 75 2 = some 2 := by kernel_rfl
theorem tF75_3_d : offT Tryd.prog 75 3 = some 3 := by kernel_rfl
theorem tF75_4_d : offT Tryd.prog 75 4 = some 4 := by kernel_rfl
theorem tA2_d : aggT Tryd.prog 2 = some false := by kernel_rfl
theorem tAr119_d : arrT Tryd.prog 119 = some (4, 2) := by kernel_rfl
theorem tS2_d : szT Tryd.prog 2 = some 1 := by kernel_rfl
theorem tS119_d : szT Tryd.prog 119 = some 4 := by kernel_rfl
theorem tA119_d : aggT Tryd.prog 119 = some true := by kernel_rfl
theorem tF75_0_d : offT Tryd.prog 75 0 = some 0 := by kernel_rfl
theorem tA73_d : aggT Tryd.prog 73 = some false := by kernel_rfl
theorem okF73_d : okFn Tryd.prog 73 Tryd.f73 := ⟨Tryd.func73, by kernel_rfl, rfl⟩
theorem okF74_d : okFn Tryd.prog 74 Tryd.f74 := ⟨Tryd.func74, by kernel_rfl, rfl⟩
theorem tA75_d : aggT Tryd.prog 75 = some true := by kernel_rfl
theorem tS75_d : szT Tryd.prog 75 = some 5 := by kernel_rfl
theorem okF75_d : okFn Tryd.prog 75 Tryd.f75 := ⟨Tryd.func75, by kernel_rfl, rfl⟩
theorem tA4_d : aggT Tryd.prog 4 = some false := by kernel_rfl
theorem tF26_1_d : offT Tryd.prog 26 1 = some 1 := by kernel_rfl
theorem tA23_d : aggT Tryd.prog 23 = some false := by kernel_rfl
theorem tE23_d : sliceT Tryd.prog 23 = some 64 := by kernel_rfl
theorem tS64_d : szT Tryd.prog 64 = some 3 := by kernel_rfl
theorem tF64_0_d : offT Tryd.prog 64 0 = some 0 := by kernel_rfl
theorem tF26_2_d : offT Tryd.prog 26 2 = some 2 := by kernel_rfl
theorem tA24_d : aggT Tryd.prog 24 = some false := by kernel_rfl
theorem tE24_d : sliceT Tryd.prog 24 = some 75 := by kernel_rfl
theorem tI3_d : intT Tryd.prog 3 = some .i64 := by kernel_rfl
theorem tI130_d : intT Tryd.prog 130 = some .u64 := by kernel_rfl
theorem tA64_d : aggT Tryd.prog 64 = some true := by kernel_rfl
theorem okF77_d : okFn Tryd.prog 77 Tryd.f77 := ⟨Tryd.func77, by kernel_rfl, rfl⟩
theorem okF78_d : okFn Tryd.prog 78 Tryd.f78 := ⟨Tryd.func78, by kernel_rfl, rfl⟩
theorem tF64_1_d : offT Tryd.prog 64 1 = some 1 := by kernel_rfl
theorem okF76_d : okFn Tryd.prog 76 Tryd.f76 := ⟨Tryd.func76, by kernel_rfl, rfl⟩
theorem tF26_0_d : offT Tryd.prog 26 0 = some 0 := by kernel_rfl
theorem tA22_d : aggT Tryd.prog 22 = some false := by kernel_rfl
theorem tE22_d : sliceT Tryd.prog 22 = some 52 := by kernel_rfl
theorem tMixed_d : Tryd.prog.follows .mixedOrders = true := by kernel_rfl
theorem tA26_d : aggT Tryd.prog 26 = some true := by kernel_rfl
theorem tS26_d : szT Tryd.prog 26 = some 4 := by kernel_rfl
theorem okF58_d : okFn Tryd.prog 58 Tryd.f58 := ⟨Tryd.func58, by kernel_rfl, rfl⟩
theorem fields_spec (op : Int) (I : Mem) (h0 : 0 ≤ op) : SpecV Tryd.prog 74 [.int .u8 op] I (.agg [.bool (has0 op), .bool (has1 op), .bool (has2 op), .bool (has3 op)].toArray) := by
  refine SpecV.intro Tryd.func74 rfl rfl fun w0 => ?_
  show WC _ _ _ _ [] [(0, _)] _ _ _
  refine WC.seq ?_
  refine WC.region ?_
  refine WL.alloc tZ117_d rfl rfl (fun b1 => ?_)
  refine WL.nil ?_
  refine WE.then_normal ?_
  refine WC.seq ?_
  refine WC.seq ?_
  refine WC.region ?_
  refine WL.move rfl rfl ?_
  refine WL.nil ?_
  refine WE.then_normal ?_
  refine WC.block ?_
  refine WC.seq ?_
  refine WC.block ?_
  refine WC.seq ?_
  refine WC.block ?_
  refine WC.seq ?_
  refine WC.block ?_
  refine WC.seq ?_
  refine WC.block ?_
  refine WC.seq ?_
  refine WC.block ?_
  refine WC.seq ?_
  refine WC.block ?_
  refine WC.seq ?_
  refine WC.block ?_
  refine WC.seq ?_
  refine WC.block ?_
  refine WC.seq ?_
  refine WC.seq ?_
  refine WC.seq ?_
  refine WC.seq ?_
  refine WC.region ?_
  refine WL.arith rfl rfl rfl rfl ?_
  refine WL.assign rfl rfl ?_
  refine WL.nil ?_
  refine WE.then_normal ?_
  refine WC.condT rfl (fun h2 => ?_) (fun h2 => ?_)
  · try simp at h2
    all_goals (
      refine WC.skip ?_
      refine WE.then_normal ?_
      refine WC.cond_true rfl ?_
      refine WC.exit ?_
      refine WE.then_exit ?_
      refine WE.then_exit ?_
      refine WE.block_exit ?_
      refine WE.then_normal ?_
      refine WC.region ?_
      refine WL.indexAddr_arr rfl rfl tAr117_d tS4_d rfl (by first | omega) ?_
      refine WL.store 0 rfl rfl rfl rfl tS4_d rfl rfl rfl rfl rfl ?_
      refine WL.nil ?_
      refine WE.block_normal ?_
      refine WE.then_normal ?_
      refine WC.region ?_
      refine WL.indexAddr_arr rfl rfl tAr117_d tS4_d rfl (by first | omega) ?_
      refine WL.store 0 rfl rfl rfl rfl tS4_d rfl rfl rfl rfl rfl ?_
      refine WL.nil ?_
      refine WE.block_normal ?_
      refine WE.then_normal ?_
      refine WC.seq ?_
      refine WC.region ?_
      refine WL.indexAddr_arr rfl rfl tAr117_d tS4_d rfl (by first | omega) ?_
      refine WL.store 0 rfl rfl rfl rfl tS4_d rfl rfl rfl rfl rfl ?_
      refine WL.nil ?_
      refine WE.then_normal ?_
      refine WC.exit ?_
      refine WE.block_other rfl ?_
      refine WE.then_exit ?_
      refine WE.block_other rfl ?_
      refine WE.then_exit ?_
      refine WE.block_other rfl ?_
      refine WE.then_exit ?_
      refine WE.block_other rfl ?_
      refine WE.then_exit ?_
      refine WE.block_other rfl ?_
      refine WE.then_exit ?_
      refine WE.block_exit ?_
      refine WE.then_normal ?_
      refine WC.seq ?_
      refine WC.region ?_
      refine WL.load_own_agg 0 rfl rfl tA117_d tS117_d rfl rfl ?_
      refine WL.store 0 rfl rfl rfl rfl tS117_d rfl rfl rfl rfl rfl ?_
      refine WL.nil ?_
      refine WE.then_normal ?_
      refine WC.ret ?_
      refine WE.retVr rfl (.cons (.agg 0 rfl rfl tA117_d tS117_d rfl) .nil) rfl ?_
      first
        | rfl
        | (refine congrArg (fun l : List Value => Value.agg l.toArray) ?_
           simp only [List.cons.injEq, Value.bool.injEq, and_true]
           refine ⟨?_, ?_, ?_, ?_⟩ <;> first | (simp [has0, has1, has2, has3, *]; done) | (simp [has0, has1, has2, has3]; omega))
    )
  · try simp at h2
    all_goals (
      refine WC.seq ?_
      refine WC.region ?_
      refine WL.arith rfl rfl rfl rfl ?_
      refine WL.assign rfl rfl ?_
      refine WL.nil ?_
      refine WE.then_normal ?_
      refine WC.condT rfl (fun h3 => ?_) (fun h3 => ?_)
      · try simp at h3
        all_goals (
          refine WC.skip ?_
          refine WE.then_normal ?_
          refine WC.cond_true rfl ?_
          refine WC.exit ?_
          refine WE.then_exit ?_
          refine WE.then_exit ?_
          refine WE.block_exit ?_
          refine WE.then_normal ?_
          refine WC.region ?_
          refine WL.indexAddr_arr rfl rfl tAr117_d tS4_d rfl (by first | omega) ?_
          refine WL.store 0 rfl rfl rfl rfl tS4_d rfl rfl rfl rfl rfl ?_
          refine WL.nil ?_
          refine WE.block_normal ?_
          refine WE.then_normal ?_
          refine WC.region ?_
          refine WL.indexAddr_arr rfl rfl tAr117_d tS4_d rfl (by first | omega) ?_
          refine WL.store 0 rfl rfl rfl rfl tS4_d rfl rfl rfl rfl rfl ?_
          refine WL.nil ?_
          refine WE.block_normal ?_
          refine WE.then_normal ?_
          refine WC.seq ?_
          refine WC.region ?_
          refine WL.indexAddr_arr rfl rfl tAr117_d tS4_d rfl (by first | omega) ?_
          refine WL.store 0 rfl rfl rfl rfl tS4_d rfl rfl rfl rfl rfl ?_
          refine WL.nil ?_
          refine WE.then_normal ?_
          refine WC.exit ?_
          refine WE.block_other rfl ?_
          refine WE.then_exit ?_
          refine WE.block_other rfl ?_
          refine WE.then_exit ?_
          refine WE.block_other rfl ?_
          refine WE.then_exit ?_
          refine WE.block_other rfl ?_
          refine WE.then_exit ?_
          refine WE.block_other rfl ?_
          refine WE.then_exit ?_
          refine WE.block_exit ?_
          refine WE.then_normal ?_
          refine WC.seq ?_
          refine WC.region ?_
          refine WL.load_own_agg 0 rfl rfl tA117_d tS117_d rfl rfl ?_
          refine WL.store 0 rfl rfl rfl rfl tS117_d rfl rfl rfl rfl rfl ?_
          refine WL.nil ?_
          refine WE.then_normal ?_
          refine WC.ret ?_
          refine WE.retVr rfl (.cons (.agg 0 rfl rfl tA117_d tS117_d rfl) .nil) rfl ?_
          first
            | rfl
            | (refine congrArg (fun l : List Value => Value.agg l.toArray) ?_
               simp only [List.cons.injEq, Value.bool.injEq, and_true]
               refine ⟨?_, ?_, ?_, ?_⟩ <;> first | (simp [has0, has1, has2, has3, *]; done) | (simp [has0, has1, has2, has3]; omega))
        )
      · try simp at h3
        all_goals (
          refine WC.seq ?_
          refine WC.region ?_
          refine WL.arith rfl rfl rfl rfl ?_
          refine WL.assign rfl rfl ?_
          refine WL.nil ?_
          refine WE.then_normal ?_
          refine WC.condT rfl (fun h4 => ?_) (fun h4 => ?_)
          · try simp at h4
            all_goals (
              refine WC.skip ?_
              refine WE.then_normal ?_
              refine WC.cond_true rfl ?_
              refine WC.exit ?_
              refine WE.then_exit ?_
              refine WE.then_exit ?_
              refine WE.block_exit ?_
              refine WE.then_normal ?_
              refine WC.region ?_
              refine WL.indexAddr_arr rfl rfl tAr117_d tS4_d rfl (by first | omega) ?_
              refine WL.store 0 rfl rfl rfl rfl tS4_d rfl rfl rfl rfl rfl ?_
              refine WL.nil ?_
              refine WE.block_normal ?_
              refine WE.then_normal ?_
              refine WC.region ?_
              refine WL.indexAddr_arr rfl rfl tAr117_d tS4_d rfl (by first | omega) ?_
              refine WL.store 0 rfl rfl rfl rfl tS4_d rfl rfl rfl rfl rfl ?_
              refine WL.nil ?_
              refine WE.block_normal ?_
              refine WE.then_normal ?_
              refine WC.seq ?_
              refine WC.region ?_
              refine WL.indexAddr_arr rfl rfl tAr117_d tS4_d rfl (by first | omega) ?_
              refine WL.store 0 rfl rfl rfl rfl tS4_d rfl rfl rfl rfl rfl ?_
              refine WL.nil ?_
              refine WE.then_normal ?_
              refine WC.exit ?_
              refine WE.block_other rfl ?_
              refine WE.then_exit ?_
              refine WE.block_other rfl ?_
              refine WE.then_exit ?_
              refine WE.block_other rfl ?_
              refine WE.then_exit ?_
              refine WE.block_other rfl ?_
              refine WE.then_exit ?_
              refine WE.block_other rfl ?_
              refine WE.then_exit ?_
              refine WE.block_exit ?_
              refine WE.then_normal ?_
              refine WC.seq ?_
              refine WC.region ?_
              refine WL.load_own_agg 0 rfl rfl tA117_d tS117_d rfl rfl ?_
              refine WL.store 0 rfl rfl rfl rfl tS117_d rfl rfl rfl rfl rfl ?_
              refine WL.nil ?_
              refine WE.then_normal ?_
              refine WC.ret ?_
              refine WE.retVr rfl (.cons (.agg 0 rfl rfl tA117_d tS117_d rfl) .nil) rfl ?_
              first
                | rfl
                | (refine congrArg (fun l : List Value => Value.agg l.toArray) ?_
                   simp only [List.cons.injEq, Value.bool.injEq, and_true]
                   refine ⟨?_, ?_, ?_, ?_⟩ <;> first | (simp [has0, has1, has2, has3, *]; done) | (simp [has0, has1, has2, has3]; omega))
            )
          · try simp at h4
            all_goals (
              refine WC.seq ?_
              refine WC.region ?_
              refine WL.arith rfl rfl rfl rfl ?_
              refine WL.assign rfl rfl ?_
              refine WL.nil ?_
              refine WE.then_normal ?_
              refine WC.condT rfl (fun h5 => ?_) (fun h5 => ?_)
              · try simp at h5
                all_goals (
                  refine WC.skip ?_
                  refine WE.then_normal ?_
                  refine WC.cond_true rfl ?_
                  refine WC.exit ?_
                  refine WE.then_exit ?_
                  refine WE.then_exit ?_
                  refine WE.block_exit ?_
                  refine WE.then_normal ?_
                  refine WC.region ?_
                  refine WL.indexAddr_arr rfl rfl tAr117_d tS4_d rfl (by first | omega) ?_
                  refine WL.store 0 rfl rfl rfl rfl tS4_d rfl rfl rfl rfl rfl ?_
                  refine WL.nil ?_
                  refine WE.block_normal ?_
                  refine WE.then_normal ?_
                  refine WC.region ?_
                  refine WL.indexAddr_arr rfl rfl tAr117_d tS4_d rfl (by first | omega) ?_
                  refine WL.store 0 rfl rfl rfl rfl tS4_d rfl rfl rfl rfl rfl ?_
                  refine WL.nil ?_
                  refine WE.block_normal ?_
                  refine WE.then_normal ?_
                  refine WC.seq ?_
                  refine WC.region ?_
                  refine WL.indexAddr_arr rfl rfl tAr117_d tS4_d rfl (by first | omega) ?_
                  refine WL.store 0 rfl rfl rfl rfl tS4_d rfl rfl rfl rfl rfl ?_
                  refine WL.nil ?_
                  refine WE.then_normal ?_
                  refine WC.exit ?_
                  refine WE.block_other rfl ?_
                  refine WE.then_exit ?_
                  refine WE.block_other rfl ?_
                  refine WE.then_exit ?_
                  refine WE.block_other rfl ?_
                  refine WE.then_exit ?_
                  refine WE.block_other rfl ?_
                  refine WE.then_exit ?_
                  refine WE.block_other rfl ?_
                  refine WE.then_exit ?_
                  refine WE.block_exit ?_
                  refine WE.then_normal ?_
                  refine WC.seq ?_
                  refine WC.region ?_
                  refine WL.load_own_agg 0 rfl rfl tA117_d tS117_d rfl rfl ?_
                  refine WL.store 0 rfl rfl rfl rfl tS117_d rfl rfl rfl rfl rfl ?_
                  refine WL.nil ?_
                  refine WE.then_normal ?_
                  refine WC.ret ?_
                  refine WE.retVr rfl (.cons (.agg 0 rfl rfl tA117_d tS117_d rfl) .nil) rfl ?_
                  first
                    | rfl
                    | (refine congrArg (fun l : List Value => Value.agg l.toArray) ?_
                       simp only [List.cons.injEq, Value.bool.injEq, and_true]
                       refine ⟨?_, ?_, ?_, ?_⟩ <;> first | (simp [has0, has1, has2, has3, *]; done) | (simp [has0, has1, has2, has3]; omega))
                )
              · try simp at h5
                all_goals (
                  refine WC.seq ?_
                  refine WC.region ?_
                  refine WL.arith rfl rfl rfl rfl ?_
                  refine WL.assign rfl rfl ?_
                  refine WL.nil ?_
                  refine WE.then_normal ?_
                  refine WC.condT rfl (fun h6 => ?_) (fun h6 => ?_)
                  · try simp at h6
                    all_goals (
                      refine WC.skip ?_
                      refine WE.then_normal ?_
                      refine WC.cond_true rfl ?_
                      refine WC.exit ?_
                      refine WE.then_exit ?_
                      refine WE.then_exit ?_
                      refine WE.block_exit ?_
                      refine WE.then_normal ?_
                      refine WC.region ?_
                      refine WL.indexAddr_arr rfl rfl tAr117_d tS4_d rfl (by first | omega) ?_
                      refine WL.store 0 rfl rfl rfl rfl tS4_d rfl rfl rfl rfl rfl ?_
                      refine WL.nil ?_
                      refine WE.block_normal ?_
                      refine WE.then_normal ?_
                      refine WC.region ?_
                      refine WL.indexAddr_arr rfl rfl tAr117_d tS4_d rfl (by first | omega) ?_
                      refine WL.store 0 rfl rfl rfl rfl tS4_d rfl rfl rfl rfl rfl ?_
                      refine WL.nil ?_
                      refine WE.block_normal ?_
                      refine WE.then_normal ?_
                      refine WC.seq ?_
                      refine WC.region ?_
                      refine WL.indexAddr_arr rfl rfl tAr117_d tS4_d rfl (by first | omega) ?_
                      refine WL.store 0 rfl rfl rfl rfl tS4_d rfl rfl rfl rfl rfl ?_
                      refine WL.nil ?_
                      refine WE.then_normal ?_
                      refine WC.exit ?_
                      refine WE.block_other rfl ?_
                      refine WE.then_exit ?_
                      refine WE.block_other rfl ?_
                      refine WE.then_exit ?_
                      refine WE.block_other rfl ?_
                      refine WE.then_exit ?_
                      refine WE.block_other rfl ?_
                      refine WE.then_exit ?_
                      refine WE.block_other rfl ?_
                      refine WE.then_exit ?_
                      refine WE.block_exit ?_
                      refine WE.then_normal ?_
                      refine WC.seq ?_
                      refine WC.region ?_
                      refine WL.load_own_agg 0 rfl rfl tA117_d tS117_d rfl rfl ?_
                      refine WL.store 0 rfl rfl rfl rfl tS117_d rfl rfl rfl rfl rfl ?_
                      refine WL.nil ?_
                      refine WE.then_normal ?_
                      refine WC.ret ?_
                      refine WE.retVr rfl (.cons (.agg 0 rfl rfl tA117_d tS117_d rfl) .nil) rfl ?_
                      first
                        | rfl
                        | (refine congrArg (fun l : List Value => Value.agg l.toArray) ?_
                           simp only [List.cons.injEq, Value.bool.injEq, and_true]
                           refine ⟨?_, ?_, ?_, ?_⟩ <;> first | (simp [has0, has1, has2, has3, *]; done) | (simp [has0, has1, has2, has3]; omega))
                    )
                  · try simp at h6
                    all_goals (
                      refine WC.seq ?_
                      refine WC.region ?_
                      refine WL.arith rfl rfl rfl rfl ?_
                      refine WL.assign rfl rfl ?_
                      refine WL.nil ?_
                      refine WE.then_normal ?_
                      refine WC.condT rfl (fun h7 => ?_) (fun h7 => ?_)
                      · try simp at h7
                        all_goals (
                          refine WC.skip ?_
                          refine WE.then_normal ?_
                          refine WC.cond_true rfl ?_
                          refine WC.exit ?_
                          refine WE.then_exit ?_
                          refine WE.then_exit ?_
                          refine WE.block_exit ?_
                          refine WE.then_normal ?_
                          refine WC.region ?_
                          refine WL.indexAddr_arr rfl rfl tAr117_d tS4_d rfl (by first | omega) ?_
                          refine WL.store 0 rfl rfl rfl rfl tS4_d rfl rfl rfl rfl rfl ?_
                          refine WL.nil ?_
                          refine WE.block_normal ?_
                          refine WE.then_normal ?_
                          refine WC.region ?_
                          refine WL.indexAddr_arr rfl rfl tAr117_d tS4_d rfl (by first | omega) ?_
                          refine WL.store 0 rfl rfl rfl rfl tS4_d rfl rfl rfl rfl rfl ?_
                          refine WL.nil ?_
                          refine WE.block_normal ?_
                          refine WE.then_normal ?_
                          refine WC.seq ?_
                          refine WC.region ?_
                          refine WL.indexAddr_arr rfl rfl tAr117_d tS4_d rfl (by first | omega) ?_
                          refine WL.store 0 rfl rfl rfl rfl tS4_d rfl rfl rfl rfl rfl ?_
                          refine WL.nil ?_
                          refine WE.then_normal ?_
                          refine WC.exit ?_
                          refine WE.block_other rfl ?_
                          refine WE.then_exit ?_
                          refine WE.block_other rfl ?_
                          refine WE.then_exit ?_
                          refine WE.block_other rfl ?_
                          refine WE.then_exit ?_
                          refine WE.block_other rfl ?_
                          refine WE.then_exit ?_
                          refine WE.block_other rfl ?_
                          refine WE.then_exit ?_
                          refine WE.block_exit ?_
                          refine WE.then_normal ?_
                          refine WC.seq ?_
                          refine WC.region ?_
                          refine WL.load_own_agg 0 rfl rfl tA117_d tS117_d rfl rfl ?_
                          refine WL.store 0 rfl rfl rfl rfl tS117_d rfl rfl rfl rfl rfl ?_
                          refine WL.nil ?_
                          refine WE.then_normal ?_
                          refine WC.ret ?_
                          refine WE.retVr rfl (.cons (.agg 0 rfl rfl tA117_d tS117_d rfl) .nil) rfl ?_
                          first
                            | rfl
                            | (refine congrArg (fun l : List Value => Value.agg l.toArray) ?_
                               simp only [List.cons.injEq, Value.bool.injEq, and_true]
                               refine ⟨?_, ?_, ?_, ?_⟩ <;> first | (simp [has0, has1, has2, has3, *]; done) | (simp [has0, has1, has2, has3]; omega))
                        )
                      · try simp at h7
                        all_goals (
                          refine WC.seq ?_
                          refine WC.region ?_
                          refine WL.arith rfl rfl rfl rfl ?_
                          refine WL.assign rfl rfl ?_
                          refine WL.nil ?_
                          refine WE.then_normal ?_
                          refine WC.condT rfl (fun h8 => ?_) (fun h8 => ?_)
                          · try simp at h8
                            all_goals (
                              refine WC.skip ?_
                              refine WE.then_normal ?_
                              refine WC.cond_true rfl ?_
                              refine WC.exit ?_
                              refine WE.then_exit ?_
                              refine WE.then_exit ?_
                              refine WE.block_exit ?_
                              refine WE.then_normal ?_
                              refine WC.region ?_
                              refine WL.indexAddr_arr rfl rfl tAr117_d tS4_d rfl (by first | omega) ?_
                              refine WL.store 0 rfl rfl rfl rfl tS4_d rfl rfl rfl rfl rfl ?_
                              refine WL.nil ?_
                              refine WE.block_normal ?_
                              refine WE.then_normal ?_
                              refine WC.region ?_
                              refine WL.indexAddr_arr rfl rfl tAr117_d tS4_d rfl (by first | omega) ?_
                              refine WL.store 0 rfl rfl rfl rfl tS4_d rfl rfl rfl rfl rfl ?_
                              refine WL.nil ?_
                              refine WE.block_normal ?_
                              refine WE.then_normal ?_
                              refine WC.seq ?_
                              refine WC.region ?_
                              refine WL.indexAddr_arr rfl rfl tAr117_d tS4_d rfl (by first | omega) ?_
                              refine WL.store 0 rfl rfl rfl rfl tS4_d rfl rfl rfl rfl rfl ?_
                              refine WL.nil ?_
                              refine WE.then_normal ?_
                              refine WC.exit ?_
                              refine WE.block_other rfl ?_
                              refine WE.then_exit ?_
                              refine WE.block_other rfl ?_
                              refine WE.then_exit ?_
                              refine WE.block_other rfl ?_
                              refine WE.then_exit ?_
                              refine WE.block_other rfl ?_
                              refine WE.then_exit ?_
                              refine WE.block_other rfl ?_
                              refine WE.then_exit ?_
                              refine WE.block_exit ?_
                              refine WE.then_normal ?_
                              refine WC.seq ?_
                              refine WC.region ?_
                              refine WL.load_own_agg 0 rfl rfl tA117_d tS117_d rfl rfl ?_
                              refine WL.store 0 rfl rfl rfl rfl tS117_d rfl rfl rfl rfl rfl ?_
                              refine WL.nil ?_
                              refine WE.then_normal ?_
                              refine WC.ret ?_
                              refine WE.retVr rfl (.cons (.agg 0 rfl rfl tA117_d tS117_d rfl) .nil) rfl ?_
                              first
                                | rfl
                                | (refine congrArg (fun l : List Value => Value.agg l.toArray) ?_
                                   simp only [List.cons.injEq, Value.bool.injEq, and_true]
                                   refine ⟨?_, ?_, ?_, ?_⟩ <;> first | (simp [has0, has1, has2, has3, *]; done) | (simp [has0, has1, has2, has3]; omega))
                            )
                          · try simp at h8
                            all_goals (
                              refine WC.region ?_
                              refine WL.arith rfl rfl rfl rfl ?_
                              refine WL.assign rfl rfl ?_
                              refine WL.nil ?_
                              refine WE.then_normal ?_
                              refine WC.condT rfl (fun h9 => ?_) (fun h9 => ?_)
                              · try simp at h9
                                all_goals (
                                  refine WC.exit ?_
                                  refine WE.then_exit ?_
                                  refine WE.then_exit ?_
                                  refine WE.block_exit ?_
                                  refine WE.then_normal ?_
                                  refine WC.region ?_
                                  refine WL.indexAddr_arr rfl rfl tAr117_d tS4_d rfl (by first | omega) ?_
                                  refine WL.store 0 rfl rfl rfl rfl tS4_d rfl rfl rfl rfl rfl ?_
                                  refine WL.nil ?_
                                  refine WE.block_normal ?_
                                  refine WE.then_normal ?_
                                  refine WC.region ?_
                                  refine WL.indexAddr_arr rfl rfl tAr117_d tS4_d rfl (by first | omega) ?_
                                  refine WL.store 0 rfl rfl rfl rfl tS4_d rfl rfl rfl rfl rfl ?_
                                  refine WL.nil ?_
                                  refine WE.block_normal ?_
                                  refine WE.then_normal ?_
                                  refine WC.seq ?_
                                  refine WC.region ?_
                                  refine WL.indexAddr_arr rfl rfl tAr117_d tS4_d rfl (by first | omega) ?_
                                  refine WL.store 0 rfl rfl rfl rfl tS4_d rfl rfl rfl rfl rfl ?_
                                  refine WL.nil ?_
                                  refine WE.then_normal ?_
                                  refine WC.exit ?_
                                  refine WE.block_other rfl ?_
                                  refine WE.then_exit ?_
                                  refine WE.block_other rfl ?_
                                  refine WE.then_exit ?_
                                  refine WE.block_other rfl ?_
                                  refine WE.then_exit ?_
                                  refine WE.block_other rfl ?_
                                  refine WE.then_exit ?_
                                  refine WE.block_other rfl ?_
                                  refine WE.then_exit ?_
                                  refine WE.block_exit ?_
                                  refine WE.then_normal ?_
                                  refine WC.seq ?_
                                  refine WC.region ?_
                                  refine WL.load_own_agg 0 rfl rfl tA117_d tS117_d rfl rfl ?_
                                  refine WL.store 0 rfl rfl rfl rfl tS117_d rfl rfl rfl rfl rfl ?_
                                  refine WL.nil ?_
                                  refine WE.then_normal ?_
                                  refine WC.ret ?_
                                  refine WE.retVr rfl (.cons (.agg 0 rfl rfl tA117_d tS117_d rfl) .nil) rfl ?_
                                  first
                                    | rfl
                                    | (refine congrArg (fun l : List Value => Value.agg l.toArray) ?_
                                       simp only [List.cons.injEq, Value.bool.injEq, and_true]
                                       refine ⟨?_, ?_, ?_, ?_⟩ <;> first | (simp [has0, has1, has2, has3, *]; done) | (simp [has0, has1, has2, has3]; omega))
                                )
                              · try simp at h9
                                all_goals (
                                  refine WC.skip ?_
                                  refine WE.then_normal ?_
                                  refine WC.seq ?_
                                  refine WC.seq ?_
                                  refine WC.seq ?_
                                  refine WC.region ?_
                                  refine WL.arith rfl rfl rfl rfl ?_
                                  refine WL.assign rfl rfl ?_
                                  refine WL.nil ?_
                                  refine WE.then_normal ?_
                                  refine WC.condT rfl (fun h10 => ?_) (fun h10 => ?_)
                                  · try simp at h10
                                    all_goals (
                                      refine WC.skip ?_
                                      refine WE.then_normal ?_
                                      refine WC.cond_true rfl ?_
                                      refine WC.exit ?_
                                      refine WE.then_exit ?_
                                      refine WE.then_exit ?_
                                      refine WE.block_other rfl ?_
                                      refine WE.then_exit ?_
                                      refine WE.block_exit ?_
                                      refine WE.then_normal ?_
                                      refine WC.region ?_
                                      refine WL.indexAddr_arr rfl rfl tAr117_d tS4_d rfl (by first | omega) ?_
                                      refine WL.store 0 rfl rfl rfl rfl tS4_d rfl rfl rfl rfl rfl ?_
                                      refine WL.nil ?_
                                      refine WE.block_normal ?_
                                      refine WE.then_normal ?_
                                      refine WC.seq ?_
                                      refine WC.region ?_
                                      refine WL.indexAddr_arr rfl rfl tAr117_d tS4_d rfl (by first | omega) ?_
                                      refine WL.store 0 rfl rfl rfl rfl tS4_d rfl rfl rfl rfl rfl ?_
                                      refine WL.nil ?_
                                      refine WE.then_normal ?_
                                      refine WC.exit ?_
                                      refine WE.block_other rfl ?_
                                      refine WE.then_exit ?_
                                      refine WE.block_other rfl ?_
                                      refine WE.then_exit ?_
                                      refine WE.block_other rfl ?_
                                      refine WE.then_exit ?_
                                      refine WE.block_other rfl ?_
                                      refine WE.then_exit ?_
                                      refine WE.block_other rfl ?_
                                      refine WE.then_exit ?_
                                      refine WE.block_exit ?_
                                      refine WE.then_normal ?_
                                      refine WC.seq ?_
                                      refine WC.region ?_
                                      refine WL.load_own_agg 0 rfl rfl tA117_d tS117_d rfl rfl ?_
                                      refine WL.store 0 rfl rfl rfl rfl tS117_d rfl rfl rfl rfl rfl ?_
                                      refine WL.nil ?_
                                      refine WE.then_normal ?_
                                      refine WC.ret ?_
                                      refine WE.retVr rfl (.cons (.agg 0 rfl rfl tA117_d tS117_d rfl) .nil) rfl ?_
                                      first
                                        | rfl
                                        | (refine congrArg (fun l : List Value => Value.agg l.toArray) ?_
                                           simp only [List.cons.injEq, Value.bool.injEq, and_true]
                                           refine ⟨?_, ?_, ?_, ?_⟩ <;> first | (simp [has0, has1, has2, has3, *]; done) | (simp [has0, has1, has2, has3]; omega))
                                    )
                                  · try simp at h10
                                    all_goals (
                                      refine WC.region ?_
                                      refine WL.arith rfl rfl rfl rfl ?_
                                      refine WL.assign rfl rfl ?_
                                      refine WL.nil ?_
                                      refine WE.then_normal ?_
                                      refine WC.condT rfl (fun h11 => ?_) (fun h11 => ?_)
                                      · try simp at h11
                                        all_goals (
                                          refine WC.exit ?_
                                          refine WE.then_exit ?_
                                          refine WE.then_exit ?_
                                          refine WE.block_other rfl ?_
                                          refine WE.then_exit ?_
                                          refine WE.block_exit ?_
                                          refine WE.then_normal ?_
                                          refine WC.region ?_
                                          refine WL.indexAddr_arr rfl rfl tAr117_d tS4_d rfl (by first | omega) ?_
                                          refine WL.store 0 rfl rfl rfl rfl tS4_d rfl rfl rfl rfl rfl ?_
                                          refine WL.nil ?_
                                          refine WE.block_normal ?_
                                          refine WE.then_normal ?_
                                          refine WC.seq ?_
                                          refine WC.region ?_
                                          refine WL.indexAddr_arr rfl rfl tAr117_d tS4_d rfl (by first | omega) ?_
                                          refine WL.store 0 rfl rfl rfl rfl tS4_d rfl rfl rfl rfl rfl ?_
                                          refine WL.nil ?_
                                          refine WE.then_normal ?_
                                          refine WC.exit ?_
                                          refine WE.block_other rfl ?_
                                          refine WE.then_exit ?_
                                          refine WE.block_other rfl ?_
                                          refine WE.then_exit ?_
                                          refine WE.block_other rfl ?_
                                          refine WE.then_exit ?_
                                          refine WE.block_other rfl ?_
                                          refine WE.then_exit ?_
                                          refine WE.block_other rfl ?_
                                          refine WE.then_exit ?_
                                          refine WE.block_exit ?_
                                          refine WE.then_normal ?_
                                          refine WC.seq ?_
                                          refine WC.region ?_
                                          refine WL.load_own_agg 0 rfl rfl tA117_d tS117_d rfl rfl ?_
                                          refine WL.store 0 rfl rfl rfl rfl tS117_d rfl rfl rfl rfl rfl ?_
                                          refine WL.nil ?_
                                          refine WE.then_normal ?_
                                          refine WC.ret ?_
                                          refine WE.retVr rfl (.cons (.agg 0 rfl rfl tA117_d tS117_d rfl) .nil) rfl ?_
                                          first
                                            | rfl
                                            | (refine congrArg (fun l : List Value => Value.agg l.toArray) ?_
                                               simp only [List.cons.injEq, Value.bool.injEq, and_true]
                                               refine ⟨?_, ?_, ?_, ?_⟩ <;> first | (simp [has0, has1, has2, has3, *]; done) | (simp [has0, has1, has2, has3]; omega))
                                        )
                                      · try simp at h11
                                        all_goals (
                                          refine WC.skip ?_
                                          refine WE.then_normal ?_
                                          refine WC.seq ?_
                                          refine WC.seq ?_
                                          refine WC.region ?_
                                          refine WL.arith rfl rfl rfl rfl ?_
                                          refine WL.assign rfl rfl ?_
                                          refine WL.nil ?_
                                          refine WE.then_normal ?_
                                          refine WC.condT rfl (fun h12 => ?_) (fun h12 => ?_)
                                          · try simp at h12
                                            all_goals (
                                              refine WC.exit ?_
                                              refine WE.then_exit ?_
                                              refine WE.then_exit ?_
                                              refine WE.block_other rfl ?_
                                              refine WE.then_exit ?_
                                              refine WE.block_other rfl ?_
                                              refine WE.then_exit ?_
                                              refine WE.block_exit ?_
                                              refine WE.then_normal ?_
                                              refine WC.seq ?_
                                              refine WC.region ?_
                                              refine WL.indexAddr_arr rfl rfl tAr117_d tS4_d rfl (by first | omega) ?_
                                              refine WL.store 0 rfl rfl rfl rfl tS4_d rfl rfl rfl rfl rfl ?_
                                              refine WL.nil ?_
                                              refine WE.then_normal ?_
                                              refine WC.exit ?_
                                              refine WE.block_other rfl ?_
                                              refine WE.then_exit ?_
                                              refine WE.block_other rfl ?_
                                              refine WE.then_exit ?_
                                              refine WE.block_other rfl ?_
                                              refine WE.then_exit ?_
                                              refine WE.block_other rfl ?_
                                              refine WE.then_exit ?_
                                              refine WE.block_other rfl ?_
                                              refine WE.then_exit ?_
                                              refine WE.block_exit ?_
                                              refine WE.then_normal ?_
                                              refine WC.seq ?_
                                              refine WC.region ?_
                                              refine WL.load_own_agg 0 rfl rfl tA117_d tS117_d rfl rfl ?_
                                              refine WL.store 0 rfl rfl rfl rfl tS117_d rfl rfl rfl rfl rfl ?_
                                              refine WL.nil ?_
                                              refine WE.then_normal ?_
                                              refine WC.ret ?_
                                              refine WE.retVr rfl (.cons (.agg 0 rfl rfl tA117_d tS117_d rfl) .nil) rfl ?_
                                              first
                                                | rfl
                                                | (refine congrArg (fun l : List Value => Value.agg l.toArray) ?_
                                                   simp only [List.cons.injEq, Value.bool.injEq, and_true]
                                                   refine ⟨?_, ?_, ?_, ?_⟩ <;> first | (simp [has0, has1, has2, has3, *]; done) | (simp [has0, has1, has2, has3]; omega))
                                            )
                                          · try simp at h12
                                            all_goals (
                                              refine WC.skip ?_
                                              refine WE.then_normal ?_
                                              refine WC.seq ?_
                                              refine WC.seq ?_
                                              refine WC.seq ?_
                                              refine WC.region ?_
                                              refine WL.arith rfl rfl rfl rfl ?_
                                              refine WL.assign rfl rfl ?_
                                              refine WL.nil ?_
                                              refine WE.then_normal ?_
                                              refine WC.condT rfl (fun h13 => ?_) (fun h13 => ?_)
                                              · try simp at h13
                                                all_goals (
                                                  refine WC.skip ?_
                                                  refine WE.then_normal ?_
                                                  refine WC.cond_true rfl ?_
                                                  refine WC.exit ?_
                                                  refine WE.then_exit ?_
                                                  refine WE.then_exit ?_
                                                  refine WE.block_other rfl ?_
                                                  refine WE.then_exit ?_
                                                  refine WE.block_other rfl ?_
                                                  refine WE.then_exit ?_
                                                  refine WE.block_other rfl ?_
                                                  refine WE.then_exit ?_
                                                  refine WE.block_exit ?_
                                                  refine WE.then_normal ?_
                                                  refine WC.region ?_
                                                  refine WL.indexAddr_arr rfl rfl tAr117_d tS4_d rfl (by first | omega) ?_
                                                  refine WL.store 0 rfl rfl rfl rfl tS4_d rfl rfl rfl rfl rfl ?_
                                                  refine WL.nil ?_
                                                  refine WE.block_normal ?_
                                                  refine WE.then_normal ?_
                                                  refine WC.seq ?_
                                                  refine WC.region ?_
                                                  refine WL.indexAddr_arr rfl rfl tAr117_d tS4_d rfl (by first | omega) ?_
                                                  refine WL.store 0 rfl rfl rfl rfl tS4_d rfl rfl rfl rfl rfl ?_
                                                  refine WL.indexAddr_arr rfl rfl tAr117_d tS4_d rfl (by first | omega) ?_
                                                  refine WL.store 0 rfl rfl rfl rfl tS4_d rfl rfl rfl rfl rfl ?_
                                                  refine WL.nil ?_
                                                  refine WE.then_normal ?_
                                                  refine WC.exit ?_
                                                  refine WE.block_other rfl ?_
                                                  refine WE.then_exit ?_
                                                  refine WE.block_other rfl ?_
                                                  refine WE.then_exit ?_
                                                  refine WE.block_other rfl ?_
                                                  refine WE.then_exit ?_
                                                  refine WE.block_exit ?_
                                                  refine WE.then_normal ?_
                                                  refine WC.seq ?_
                                                  refine WC.region ?_
                                                  refine WL.load_own_agg 0 rfl rfl tA117_d tS117_d rfl rfl ?_
                                                  refine WL.store 0 rfl rfl rfl rfl tS117_d rfl rfl rfl rfl rfl ?_
                                                  refine WL.nil ?_
                                                  refine WE.then_normal ?_
                                                  refine WC.ret ?_
                                                  refine WE.retVr rfl (.cons (.agg 0 rfl rfl tA117_d tS117_d rfl) .nil) rfl ?_
                                                  first
                                                    | rfl
                                                    | (refine congrArg (fun l : List Value => Value.agg l.toArray) ?_
                                                       simp only [List.cons.injEq, Value.bool.injEq, and_true]
                                                       refine ⟨?_, ?_, ?_, ?_⟩ <;> first | (simp [has0, has1, has2, has3, *]; done) | (simp [has0, has1, has2, has3]; omega))
                                                )
                                              · try simp at h13
                                                all_goals (
                                                  refine WC.seq ?_
                                                  refine WC.region ?_
                                                  refine WL.arith rfl rfl rfl rfl ?_
                                                  refine WL.assign rfl rfl ?_
                                                  refine WL.nil ?_
                                                  refine WE.then_normal ?_
                                                  refine WC.condT rfl (fun h14 => ?_) (fun h14 => ?_)
                                                  · try simp at h14
                                                    all_goals (
                                                      refine WC.skip ?_
                                                      refine WE.then_normal ?_
                                                      refine WC.cond_true rfl ?_
                                                      refine WC.exit ?_
                                                      refine WE.then_exit ?_
                                                      refine WE.then_exit ?_
                                                      refine WE.block_other rfl ?_
                                                      refine WE.then_exit ?_
                                                      refine WE.block_other rfl ?_
                                                      refine WE.then_exit ?_
                                                      refine WE.block_other rfl ?_
                                                      refine WE.then_exit ?_
                                                      refine WE.block_exit ?_
                                                      refine WE.then_normal ?_
                                                      refine WC.region ?_
                                                      refine WL.indexAddr_arr rfl rfl tAr117_d tS4_d rfl (by first | omega) ?_
                                                      refine WL.store 0 rfl rfl rfl rfl tS4_d rfl rfl rfl rfl rfl ?_
                                                      refine WL.nil ?_
                                                      refine WE.block_normal ?_
                                                      refine WE.then_normal ?_
                                                      refine WC.seq ?_
                                                      refine WC.region ?_
                                                      refine WL.indexAddr_arr rfl rfl tAr117_d tS4_d rfl (by first | omega) ?_
                                                      refine WL.store 0 rfl rfl rfl rfl tS4_d rfl rfl rfl rfl rfl ?_
                                                      refine WL.indexAddr_arr rfl rfl tAr117_d tS4_d rfl (by first | omega) ?_
                                                      refine WL.store 0 rfl rfl rfl rfl tS4_d rfl rfl rfl rfl rfl ?_
                                                      refine WL.nil ?_
                                                      refine WE.then_normal ?_
                                                      refine WC.exit ?_
                                                      refine WE.block_other rfl ?_
                                                      refine WE.then_exit ?_
                                                      refine WE.block_other rfl ?_
                                                      refine WE.then_exit ?_
                                                      refine WE.block_other rfl ?_
                                                      refine WE.then_exit ?_
                                                      refine WE.block_exit ?_
                                                      refine WE.then_normal ?_
                                                      refine WC.seq ?_
                                                      refine WC.region ?_
                                                      refine WL.load_own_agg 0 rfl rfl tA117_d tS117_d rfl rfl ?_
                                                      refine WL.store 0 rfl rfl rfl rfl tS117_d rfl rfl rfl rfl rfl ?_
                                                      refine WL.nil ?_
                                                      refine WE.then_normal ?_
                                                      refine WC.ret ?_
                                                      refine WE.retVr rfl (.cons (.agg 0 rfl rfl tA117_d tS117_d rfl) .nil) rfl ?_
                                                      first
                                                        | rfl
                                                        | (refine congrArg (fun l : List Value => Value.agg l.toArray) ?_
                                                           simp only [List.cons.injEq, Value.bool.injEq, and_true]
                                                           refine ⟨?_, ?_, ?_, ?_⟩ <;> first | (simp [has0, has1, has2, has3, *]; done) | (simp [has0, has1, has2, has3]; omega))
                                                    )
                                                  · try simp at h14
                                                    all_goals (
                                                      refine WC.seq ?_
                                                      refine WC.region ?_
                                                      refine WL.arith rfl rfl rfl rfl ?_
                                                      refine WL.assign rfl rfl ?_
                                                      refine WL.nil ?_
                                                      refine WE.then_normal ?_
                                                      refine WC.condT rfl (fun h15 => ?_) (fun h15 => ?_)
                                                      · try simp at h15
                                                        all_goals (
                                                          refine WC.skip ?_
                                                          refine WE.then_normal ?_
                                                          refine WC.cond_true rfl ?_
                                                          refine WC.exit ?_
                                                          refine WE.then_exit ?_
                                                          refine WE.then_exit ?_
                                                          refine WE.block_other rfl ?_
                                                          refine WE.then_exit ?_
                                                          refine WE.block_other rfl ?_
                                                          refine WE.then_exit ?_
                                                          refine WE.block_other rfl ?_
                                                          refine WE.then_exit ?_
                                                          refine WE.block_exit ?_
                                                          refine WE.then_normal ?_
                                                          refine WC.region ?_
                                                          refine WL.indexAddr_arr rfl rfl tAr117_d tS4_d rfl (by first | omega) ?_
                                                          refine WL.store 0 rfl rfl rfl rfl tS4_d rfl rfl rfl rfl rfl ?_
                                                          refine WL.nil ?_
                                                          refine WE.block_normal ?_
                                                          refine WE.then_normal ?_
                                                          refine WC.seq ?_
                                                          refine WC.region ?_
                                                          refine WL.indexAddr_arr rfl rfl tAr117_d tS4_d rfl (by first | omega) ?_
                                                          refine WL.store 0 rfl rfl rfl rfl tS4_d rfl rfl rfl rfl rfl ?_
                                                          refine WL.indexAddr_arr rfl rfl tAr117_d tS4_d rfl (by first | omega) ?_
                                                          refine WL.store 0 rfl rfl rfl rfl tS4_d rfl rfl rfl rfl rfl ?_
                                                          refine WL.nil ?_
                                                          refine WE.then_normal ?_
                                                          refine WC.exit ?_
                                                          refine WE.block_other rfl ?_
                                                          refine WE.then_exit ?_
                                                          refine WE.block_other rfl ?_
                                                          refine WE.then_exit ?_
                                                          refine WE.block_other rfl ?_
                                                          refine WE.then_exit ?_
                                                          refine WE.block_exit ?_
                                                          refine WE.then_normal ?_
                                                          refine WC.seq ?_
                                                          refine WC.region ?_
                                                          refine WL.load_own_agg 0 rfl rfl tA117_d tS117_d rfl rfl ?_
                                                          refine WL.store 0 rfl rfl rfl rfl tS117_d rfl rfl rfl rfl rfl ?_
                                                          refine WL.nil ?_
                                                          refine WE.then_normal ?_
                                                          refine WC.ret ?_
                                                          refine WE.retVr rfl (.cons (.agg 0 rfl rfl tA117_d tS117_d rfl) .nil) rfl ?_
                                                          first
                                                            | rfl
                                                            | (refine congrArg (fun l : List Value => Value.agg l.toArray) ?_
                                                               simp only [List.cons.injEq, Value.bool.injEq, and_true]
                                                               refine ⟨?_, ?_, ?_, ?_⟩ <;> first | (simp [has0, has1, has2, has3, *]; done) | (simp [has0, has1, has2, has3]; omega))
                                                        )
                                                      · try simp at h15
                                                        all_goals (
                                                          refine WC.region ?_
                                                          refine WL.arith rfl rfl rfl rfl ?_
                                                          refine WL.assign rfl rfl ?_
                                                          refine WL.nil ?_
                                                          refine WE.then_normal ?_
                                                          refine WC.condT rfl (fun h16 => ?_) (fun h16 => ?_)
                                                          · try simp at h16
                                                            all_goals (
                                                              refine WC.exit ?_
                                                              refine WE.then_exit ?_
                                                              refine WE.then_exit ?_
                                                              refine WE.block_other rfl ?_
                                                              refine WE.then_exit ?_
                                                              refine WE.block_other rfl ?_
                                                              refine WE.then_exit ?_
                                                              refine WE.block_other rfl ?_
                                                              refine WE.then_exit ?_
                                                              refine WE.block_exit ?_
                                                              refine WE.then_normal ?_
                                                              refine WC.region ?_
                                                              refine WL.indexAddr_arr rfl rfl tAr117_d tS4_d rfl (by first | omega) ?_
                                                              refine WL.store 0 rfl rfl rfl rfl tS4_d rfl rfl rfl rfl rfl ?_
                                                              refine WL.nil ?_
                                                              refine WE.block_normal ?_
                                                              refine WE.then_normal ?_
                                                              refine WC.seq ?_
                                                              refine WC.region ?_
                                                              refine WL.indexAddr_arr rfl rfl tAr117_d tS4_d rfl (by first | omega) ?_
                                                              refine WL.store 0 rfl rfl rfl rfl tS4_d rfl rfl rfl rfl rfl ?_
                                                              refine WL.indexAddr_arr rfl rfl tAr117_d tS4_d rfl (by first | omega) ?_
                                                              refine WL.store 0 rfl rfl rfl rfl tS4_d rfl rfl rfl rfl rfl ?_
                                                              refine WL.nil ?_
                                                              refine WE.then_normal ?_
                                                              refine WC.exit ?_
                                                              refine WE.block_other rfl ?_
                                                              refine WE.then_exit ?_
                                                              refine WE.block_other rfl ?_
                                                              refine WE.then_exit ?_
                                                              refine WE.block_other rfl ?_
                                                              refine WE.then_exit ?_
                                                              refine WE.block_exit ?_
                                                              refine WE.then_normal ?_
                                                              refine WC.seq ?_
                                                              refine WC.region ?_
                                                              refine WL.load_own_agg 0 rfl rfl tA117_d tS117_d rfl rfl ?_
                                                              refine WL.store 0 rfl rfl rfl rfl tS117_d rfl rfl rfl rfl rfl ?_
                                                              refine WL.nil ?_
                                                              refine WE.then_normal ?_
                                                              refine WC.ret ?_
                                                              refine WE.retVr rfl (.cons (.agg 0 rfl rfl tA117_d tS117_d rfl) .nil) rfl ?_
                                                              first
                                                                | rfl
                                                                | (refine congrArg (fun l : List Value => Value.agg l.toArray) ?_
                                                                   simp only [List.cons.injEq, Value.bool.injEq, and_true]
                                                                   refine ⟨?_, ?_, ?_, ?_⟩ <;> first | (simp [has0, has1, has2, has3, *]; done) | (simp [has0, has1, has2, has3]; omega))
                                                            )
                                                          · try simp at h16
                                                            all_goals (
                                                              refine WC.skip ?_
                                                              refine WE.then_normal ?_
                                                              refine WC.seq ?_
                                                              refine WC.seq ?_
                                                              refine WC.seq ?_
                                                              refine WC.region ?_
                                                              refine WL.arith rfl rfl rfl rfl ?_
                                                              refine WL.assign rfl rfl ?_
                                                              refine WL.nil ?_
                                                              refine WE.then_normal ?_
                                                              refine WC.condT rfl (fun h17 => ?_) (fun h17 => ?_)
                                                              · try simp at h17
                                                                all_goals (
                                                                  refine WC.skip ?_
                                                                  refine WE.then_normal ?_
                                                                  refine WC.cond_true rfl ?_
                                                                  refine WC.exit ?_
                                                                  refine WE.then_exit ?_
                                                                  refine WE.then_exit ?_
                                                                  refine WE.block_other rfl ?_
                                                                  refine WE.then_exit ?_
                                                                  refine WE.block_other rfl ?_
                                                                  refine WE.then_exit ?_
                                                                  refine WE.block_other rfl ?_
                                                                  refine WE.then_exit ?_
                                                                  refine WE.block_other rfl ?_
                                                                  refine WE.then_exit ?_
                                                                  refine WE.block_exit ?_
                                                                  refine WE.then_normal ?_
                                                                  refine WC.seq ?_
                                                                  refine WC.region ?_
                                                                  refine WL.indexAddr_arr rfl rfl tAr117_d tS4_d rfl (by first | omega) ?_
                                                                  refine WL.store 0 rfl rfl rfl rfl tS4_d rfl rfl rfl rfl rfl ?_
                                                                  refine WL.indexAddr_arr rfl rfl tAr117_d tS4_d rfl (by first | omega) ?_
                                                                  refine WL.store 0 rfl rfl rfl rfl tS4_d rfl rfl rfl rfl rfl ?_
                                                                  refine WL.nil ?_
                                                                  refine WE.then_normal ?_
                                                                  refine WC.exit ?_
                                                                  refine WE.block_other rfl ?_
                                                                  refine WE.then_exit ?_
                                                                  refine WE.block_other rfl ?_
                                                                  refine WE.then_exit ?_
                                                                  refine WE.block_other rfl ?_
                                                                  refine WE.then_exit ?_
                                                                  refine WE.block_exit ?_
                                                                  refine WE.then_normal ?_
                                                                  refine WC.seq ?_
                                                                  refine WC.region ?_
                                                                  refine WL.load_own_agg 0 rfl rfl tA117_d tS117_d rfl rfl ?_
                                                                  refine WL.store 0 rfl rfl rfl rfl tS117_d rfl rfl rfl rfl rfl ?_
                                                                  refine WL.nil ?_
                                                                  refine WE.then_normal ?_
                                                                  refine WC.ret ?_
                                                                  refine WE.retVr rfl (.cons (.agg 0 rfl rfl tA117_d tS117_d rfl) .nil) rfl ?_
                                                                  first
                                                                    | rfl
                                                                    | (refine congrArg (fun l : List Value => Value.agg l.toArray) ?_
                                                                       simp only [List.cons.injEq, Value.bool.injEq, and_true]
                                                                       refine ⟨?_, ?_, ?_, ?_⟩ <;> first | (simp [has0, has1, has2, has3, *]; done) | (simp [has0, has1, has2, has3]; omega))
                                                                )
                                                              · try simp at h17
                                                                all_goals (
                                                                  refine WC.seq ?_
                                                                  refine WC.region ?_
                                                                  refine WL.arith rfl rfl rfl rfl ?_
                                                                  refine WL.assign rfl rfl ?_
                                                                  refine WL.nil ?_
                                                                  refine WE.then_normal ?_
                                                                  refine WC.condT rfl (fun h18 => ?_) (fun h18 => ?_)
                                                                  · try simp at h18
                                                                    all_goals (
                                                                      refine WC.skip ?_
                                                                      refine WE.then_normal ?_
                                                                      refine WC.cond_true rfl ?_
                                                                      refine WC.exit ?_
                                                                      refine WE.then_exit ?_
                                                                      refine WE.then_exit ?_
                                                                      refine WE.block_other rfl ?_
                                                                      refine WE.then_exit ?_
                                                                      refine WE.block_other rfl ?_
                                                                      refine WE.then_exit ?_
                                                                      refine WE.block_other rfl ?_
                                                                      refine WE.then_exit ?_
                                                                      refine WE.block_other rfl ?_
                                                                      refine WE.then_exit ?_
                                                                      refine WE.block_exit ?_
                                                                      refine WE.then_normal ?_
                                                                      refine WC.seq ?_
                                                                      refine WC.region ?_
                                                                      refine WL.indexAddr_arr rfl rfl tAr117_d tS4_d rfl (by first | omega) ?_
                                                                      refine WL.store 0 rfl rfl rfl rfl tS4_d rfl rfl rfl rfl rfl ?_
                                                                      refine WL.indexAddr_arr rfl rfl tAr117_d tS4_d rfl (by first | omega) ?_
                                                                      refine WL.store 0 rfl rfl rfl rfl tS4_d rfl rfl rfl rfl rfl ?_
                                                                      refine WL.nil ?_
                                                                      refine WE.then_normal ?_
                                                                      refine WC.exit ?_
                                                                      refine WE.block_other rfl ?_
                                                                      refine WE.then_exit ?_
                                                                      refine WE.block_other rfl ?_
                                                                      refine WE.then_exit ?_
                                                                      refine WE.block_other rfl ?_
                                                                      refine WE.then_exit ?_
                                                                      refine WE.block_exit ?_
                                                                      refine WE.then_normal ?_
                                                                      refine WC.seq ?_
                                                                      refine WC.region ?_
                                                                      refine WL.load_own_agg 0 rfl rfl tA117_d tS117_d rfl rfl ?_
                                                                      refine WL.store 0 rfl rfl rfl rfl tS117_d rfl rfl rfl rfl rfl ?_
                                                                      refine WL.nil ?_
                                                                      refine WE.then_normal ?_
                                                                      refine WC.ret ?_
                                                                      refine WE.retVr rfl (.cons (.agg 0 rfl rfl tA117_d tS117_d rfl) .nil) rfl ?_
                                                                      first
                                                                        | rfl
                                                                        | (refine congrArg (fun l : List Value => Value.agg l.toArray) ?_
                                                                           simp only [List.cons.injEq, Value.bool.injEq, and_true]
                                                                           refine ⟨?_, ?_, ?_, ?_⟩ <;> first | (simp [has0, has1, has2, has3, *]; done) | (simp [has0, has1, has2, has3]; omega))
                                                                    )
                                                                  · try simp at h18
                                                                    all_goals (
                                                                      refine WC.region ?_
                                                                      refine WL.arith rfl rfl rfl rfl ?_
                                                                      refine WL.assign rfl rfl ?_
                                                                      refine WL.nil ?_
                                                                      refine WE.then_normal ?_
                                                                      refine WC.condT rfl (fun h19 => ?_) (fun h19 => ?_)
                                                                      · try simp at h19
                                                                        all_goals (
                                                                          refine WC.exit ?_
                                                                          refine WE.then_exit ?_
                                                                          refine WE.then_exit ?_
                                                                          refine WE.block_other rfl ?_
                                                                          refine WE.then_exit ?_
                                                                          refine WE.block_other rfl ?_
                                                                          refine WE.then_exit ?_
                                                                          refine WE.block_other rfl ?_
                                                                          refine WE.then_exit ?_
                                                                          refine WE.block_other rfl ?_
                                                                          refine WE.then_exit ?_
                                                                          refine WE.block_exit ?_
                                                                          refine WE.then_normal ?_
                                                                          refine WC.seq ?_
                                                                          refine WC.region ?_
                                                                          refine WL.indexAddr_arr rfl rfl tAr117_d tS4_d rfl (by first | omega) ?_
                                                                          refine WL.store 0 rfl rfl rfl rfl tS4_d rfl rfl rfl rfl rfl ?_
                                                                          refine WL.indexAddr_arr rfl rfl tAr117_d tS4_d rfl (by first | omega) ?_
                                                                          refine WL.store 0 rfl rfl rfl rfl tS4_d rfl rfl rfl rfl rfl ?_
                                                                          refine WL.nil ?_
                                                                          refine WE.then_normal ?_
                                                                          refine WC.exit ?_
                                                                          refine WE.block_other rfl ?_
                                                                          refine WE.then_exit ?_
                                                                          refine WE.block_other rfl ?_
                                                                          refine WE.then_exit ?_
                                                                          refine WE.block_other rfl ?_
                                                                          refine WE.then_exit ?_
                                                                          refine WE.block_exit ?_
                                                                          refine WE.then_normal ?_
                                                                          refine WC.seq ?_
                                                                          refine WC.region ?_
                                                                          refine WL.load_own_agg 0 rfl rfl tA117_d tS117_d rfl rfl ?_
                                                                          refine WL.store 0 rfl rfl rfl rfl tS117_d rfl rfl rfl rfl rfl ?_
                                                                          refine WL.nil ?_
                                                                          refine WE.then_normal ?_
                                                                          refine WC.ret ?_
                                                                          refine WE.retVr rfl (.cons (.agg 0 rfl rfl tA117_d tS117_d rfl) .nil) rfl ?_
                                                                          first
                                                                            | rfl
                                                                            | (refine congrArg (fun l : List Value => Value.agg l.toArray) ?_
                                                                               simp only [List.cons.injEq, Value.bool.injEq, and_true]
                                                                               refine ⟨?_, ?_, ?_, ?_⟩ <;> first | (simp [has0, has1, has2, has3, *]; done) | (simp [has0, has1, has2, has3]; omega))
                                                                        )
                                                                      · try simp at h19
                                                                        all_goals (
                                                                          refine WC.skip ?_
                                                                          refine WE.then_normal ?_
                                                                          refine WC.seq ?_
                                                                          refine WC.seq ?_
                                                                          refine WC.seq ?_
                                                                          refine WC.region ?_
                                                                          refine WL.arith rfl rfl rfl rfl ?_
                                                                          refine WL.assign rfl rfl ?_
                                                                          refine WL.nil ?_
                                                                          refine WE.then_normal ?_
                                                                          refine WC.condT rfl (fun h20 => ?_) (fun h20 => ?_)
                                                                          · try simp at h20
                                                                            all_goals (
                                                                              refine WC.skip ?_
                                                                              refine WE.then_normal ?_
                                                                              refine WC.cond_true rfl ?_
                                                                              refine WC.exit ?_
                                                                              refine WE.then_exit ?_
                                                                              refine WE.then_exit ?_
                                                                              refine WE.block_other rfl ?_
                                                                              refine WE.then_exit ?_
                                                                              refine WE.block_other rfl ?_
                                                                              refine WE.then_exit ?_
                                                                              refine WE.block_other rfl ?_
                                                                              refine WE.then_exit ?_
                                                                              refine WE.block_other rfl ?_
                                                                              refine WE.then_exit ?_
                                                                              refine WE.block_other rfl ?_
                                                                              refine WE.then_exit ?_
                                                                              refine WE.block_exit ?_
                                                                              refine WE.then_normal ?_
                                                                              refine WC.region ?_
                                                                              refine WL.indexAddr_arr rfl rfl tAr117_d tS4_d rfl (by first | omega) ?_
                                                                              refine WL.store 0 rfl rfl rfl rfl tS4_d rfl rfl rfl rfl rfl ?_
                                                                              refine WL.nil ?_
                                                                              refine WE.block_normal ?_
                                                                              refine WE.then_normal ?_
                                                                              refine WC.seq ?_
                                                                              refine WC.region ?_
                                                                              refine WL.indexAddr_arr rfl rfl tAr117_d tS4_d rfl (by first | omega) ?_
                                                                              refine WL.store 0 rfl rfl rfl rfl tS4_d rfl rfl rfl rfl rfl ?_
                                                                              refine WL.nil ?_
                                                                              refine WE.then_normal ?_
                                                                              refine WC.exit ?_
                                                                              refine WE.block_other rfl ?_
                                                                              refine WE.then_exit ?_
                                                                              refine WE.block_exit ?_
                                                                              refine WE.then_normal ?_
                                                                              refine WC.seq ?_
                                                                              refine WC.region ?_
                                                                              refine WL.load_own_agg 0 rfl rfl tA117_d tS117_d rfl rfl ?_
                                                                              refine WL.store 0 rfl rfl rfl rfl tS117_d rfl rfl rfl rfl rfl ?_
                                                                              refine WL.nil ?_
                                                                              refine WE.then_normal ?_
                                                                              refine WC.ret ?_
                                                                              refine WE.retVr rfl (.cons (.agg 0 rfl rfl tA117_d tS117_d rfl) .nil) rfl ?_
                                                                              first
                                                                                | rfl
                                                                                | (refine congrArg (fun l : List Value => Value.agg l.toArray) ?_
                                                                                   simp only [List.cons.injEq, Value.bool.injEq, and_true]
                                                                                   refine ⟨?_, ?_, ?_, ?_⟩ <;> first | (simp [has0, has1, has2, has3, *]; done) | (simp [has0, has1, has2, has3]; omega))
                                                                            )
                                                                          · try simp at h20
                                                                            all_goals (
                                                                              refine WC.seq ?_
                                                                              refine WC.region ?_
                                                                              refine WL.arith rfl rfl rfl rfl ?_
                                                                              refine WL.assign rfl rfl ?_
                                                                              refine WL.nil ?_
                                                                              refine WE.then_normal ?_
                                                                              refine WC.condT rfl (fun h21 => ?_) (fun h21 => ?_)
                                                                              · try simp at h21
                                                                                all_goals (
                                                                                  refine WC.skip ?_
                                                                                  refine WE.then_normal ?_
                                                                                  refine WC.cond_true rfl ?_
                                                                                  refine WC.exit ?_
                                                                                  refine WE.then_exit ?_
                                                                                  refine WE.then_exit ?_
                                                                                  refine WE.block_other rfl ?_
                                                                                  refine WE.then_exit ?_
                                                                                  refine WE.block_other rfl ?_
                                                                                  refine WE.then_exit ?_
                                                                                  refine WE.block_other rfl ?_
                                                                                  refine WE.then_exit ?_
                                                                                  refine WE.block_other rfl ?_
                                                                                  refine WE.then_exit ?_
                                                                                  refine WE.block_other rfl ?_
                                                                                  refine WE.then_exit ?_
                                                                                  refine WE.block_exit ?_
                                                                                  refine WE.then_normal ?_
                                                                                  refine WC.region ?_
                                                                                  refine WL.indexAddr_arr rfl rfl tAr117_d tS4_d rfl (by first | omega) ?_
                                                                                  refine WL.store 0 rfl rfl rfl rfl tS4_d rfl rfl rfl rfl rfl ?_
                                                                                  refine WL.nil ?_
                                                                                  refine WE.block_normal ?_
                                                                                  refine WE.then_normal ?_
                                                                                  refine WC.seq ?_
                                                                                  refine WC.region ?_
                                                                                  refine WL.indexAddr_arr rfl rfl tAr117_d tS4_d rfl (by first | omega) ?_
                                                                                  refine WL.store 0 rfl rfl rfl rfl tS4_d rfl rfl rfl rfl rfl ?_
                                                                                  refine WL.nil ?_
                                                                                  refine WE.then_normal ?_
                                                                                  refine WC.exit ?_
                                                                                  refine WE.block_other rfl ?_
                                                                                  refine WE.then_exit ?_
                                                                                  refine WE.block_exit ?_
                                                                                  refine WE.then_normal ?_
                                                                                  refine WC.seq ?_
                                                                                  refine WC.region ?_
                                                                                  refine WL.load_own_agg 0 rfl rfl tA117_d tS117_d rfl rfl ?_
                                                                                  refine WL.store 0 rfl rfl rfl rfl tS117_d rfl rfl rfl rfl rfl ?_
                                                                                  refine WL.nil ?_
                                                                                  refine WE.then_normal ?_
                                                                                  refine WC.ret ?_
                                                                                  refine WE.retVr rfl (.cons (.agg 0 rfl rfl tA117_d tS117_d rfl) .nil) rfl ?_
                                                                                  first
                                                                                    | rfl
                                                                                    | (refine congrArg (fun l : List Value => Value.agg l.toArray) ?_
                                                                                       simp only [List.cons.injEq, Value.bool.injEq, and_true]
                                                                                       refine ⟨?_, ?_, ?_, ?_⟩ <;> first | (simp [has0, has1, has2, has3, *]; done) | (simp [has0, has1, has2, has3]; omega))
                                                                                )
                                                                              · try simp at h21
                                                                                all_goals (
                                                                                  refine WC.region ?_
                                                                                  refine WL.arith rfl rfl rfl rfl ?_
                                                                                  refine WL.assign rfl rfl ?_
                                                                                  refine WL.nil ?_
                                                                                  refine WE.then_normal ?_
                                                                                  refine WC.condT rfl (fun h22 => ?_) (fun h22 => ?_)
                                                                                  · try simp at h22
                                                                                    all_goals (
                                                                                      refine WC.exit ?_
                                                                                      refine WE.then_exit ?_
                                                                                      refine WE.then_exit ?_
                                                                                      refine WE.block_other rfl ?_
                                                                                      refine WE.then_exit ?_
                                                                                      refine WE.block_other rfl ?_
                                                                                      refine WE.then_exit ?_
                                                                                      refine WE.block_other rfl ?_
                                                                                      refine WE.then_exit ?_
                                                                                      refine WE.block_other rfl ?_
                                                                                      refine WE.then_exit ?_
                                                                                      refine WE.block_other rfl ?_
                                                                                      refine WE.then_exit ?_
                                                                                      refine WE.block_exit ?_
                                                                                      refine WE.then_normal ?_
                                                                                      refine WC.region ?_
                                                                                      refine WL.indexAddr_arr rfl rfl tAr117_d tS4_d rfl (by first | omega) ?_
                                                                                      refine WL.store 0 rfl rfl rfl rfl tS4_d rfl rfl rfl rfl rfl ?_
                                                                                      refine WL.nil ?_
                                                                                      refine WE.block_normal ?_
                                                                                      refine WE.then_normal ?_
                                                                                      refine WC.seq ?_
                                                                                      refine WC.region ?_
                                                                                      refine WL.indexAddr_arr rfl rfl tAr117_d tS4_d rfl (by first | omega) ?_
                                                                                      refine WL.store 0 rfl rfl rfl rfl tS4_d rfl rfl rfl rfl rfl ?_
                                                                                      refine WL.nil ?_
                                                                                      refine WE.then_normal ?_
                                                                                      refine WC.exit ?_
                                                                                      refine WE.block_other rfl ?_
                                                                                      refine WE.then_exit ?_
                                                                                      refine WE.block_exit ?_
                                                                                      refine WE.then_normal ?_
                                                                                      refine WC.seq ?_
                                                                                      refine WC.region ?_
                                                                                      refine WL.load_own_agg 0 rfl rfl tA117_d tS117_d rfl rfl ?_
                                                                                      refine WL.store 0 rfl rfl rfl rfl tS117_d rfl rfl rfl rfl rfl ?_
                                                                                      refine WL.nil ?_
                                                                                      refine WE.then_normal ?_
                                                                                      refine WC.ret ?_
                                                                                      refine WE.retVr rfl (.cons (.agg 0 rfl rfl tA117_d tS117_d rfl) .nil) rfl ?_
                                                                                      first
                                                                                        | rfl
                                                                                        | (refine congrArg (fun l : List Value => Value.agg l.toArray) ?_
                                                                                           simp only [List.cons.injEq, Value.bool.injEq, and_true]
                                                                                           refine ⟨?_, ?_, ?_, ?_⟩ <;> first | (simp [has0, has1, has2, has3, *]; done) | (simp [has0, has1, has2, has3]; omega))
                                                                                    )
                                                                                  · try simp at h22
                                                                                    all_goals (
                                                                                      refine WC.skip ?_
                                                                                      refine WE.then_normal ?_
                                                                                      refine WC.seq ?_
                                                                                      refine WC.seq ?_
                                                                                      refine WC.region ?_
                                                                                      refine WL.arith rfl rfl rfl rfl ?_
                                                                                      refine WL.assign rfl rfl ?_
                                                                                      refine WL.nil ?_
                                                                                      refine WE.then_normal ?_
                                                                                      refine WC.condT rfl (fun h23 => ?_) (fun h23 => ?_)
                                                                                      · try simp at h23
                                                                                        all_goals (
                                                                                          refine WC.exit ?_
                                                                                          refine WE.then_exit ?_
                                                                                          refine WE.then_exit ?_
                                                                                          refine WE.block_other rfl ?_
                                                                                          refine WE.then_exit ?_
                                                                                          refine WE.block_other rfl ?_
                                                                                          refine WE.then_exit ?_
                                                                                          refine WE.block_other rfl ?_
                                                                                          refine WE.then_exit ?_
                                                                                          refine WE.block_other rfl ?_
                                                                                          refine WE.then_exit ?_
                                                                                          refine WE.block_other rfl ?_
                                                                                          refine WE.then_exit ?_
                                                                                          refine WE.block_other rfl ?_
                                                                                          refine WE.then_exit ?_
                                                                                          refine WE.block_exit ?_
                                                                                          refine WE.then_normal ?_
                                                                                          refine WC.seq ?_
                                                                                          refine WC.region ?_
                                                                                          refine WL.indexAddr_arr rfl rfl tAr117_d tS4_d rfl (by first | omega) ?_
                                                                                          refine WL.store 0 rfl rfl rfl rfl tS4_d rfl rfl rfl rfl rfl ?_
                                                                                          refine WL.nil ?_
                                                                                          refine WE.then_normal ?_
                                                                                          refine WC.exit ?_
                                                                                          refine WE.block_other rfl ?_
                                                                                          refine WE.then_exit ?_
                                                                                          refine WE.block_exit ?_
                                                                                          refine WE.then_normal ?_
                                                                                          refine WC.seq ?_
                                                                                          refine WC.region ?_
                                                                                          refine WL.load_own_agg 0 rfl rfl tA117_d tS117_d rfl rfl ?_
                                                                                          refine WL.store 0 rfl rfl rfl rfl tS117_d rfl rfl rfl rfl rfl ?_
                                                                                          refine WL.nil ?_
                                                                                          refine WE.then_normal ?_
                                                                                          refine WC.ret ?_
                                                                                          refine WE.retVr rfl (.cons (.agg 0 rfl rfl tA117_d tS117_d rfl) .nil) rfl ?_
                                                                                          first
                                                                                            | rfl
                                                                                            | (refine congrArg (fun l : List Value => Value.agg l.toArray) ?_
                                                                                               simp only [List.cons.injEq, Value.bool.injEq, and_true]
                                                                                               refine ⟨?_, ?_, ?_, ?_⟩ <;> first | (simp [has0, has1, has2, has3, *]; done) | (simp [has0, has1, has2, has3]; omega))
                                                                                        )
                                                                                      · try simp at h23
                                                                                        all_goals (
                                                                                          refine WC.skip ?_
                                                                                          refine WE.then_normal ?_
                                                                                          refine WC.seq ?_
                                                                                          refine WC.seq ?_
                                                                                          refine WC.region ?_
                                                                                          refine WL.arith rfl rfl rfl rfl ?_
                                                                                          refine WL.assign rfl rfl ?_
                                                                                          refine WL.nil ?_
                                                                                          refine WE.then_normal ?_
                                                                                          refine WC.condT rfl (fun h24 => ?_) (fun h24 => ?_)
                                                                                          · try simp at h24
                                                                                            all_goals (
                                                                                              refine WC.skip ?_
                                                                                              refine WE.then_normal ?_
                                                                                              refine WC.cond_true rfl ?_
                                                                                              refine WC.exit ?_
                                                                                              refine WE.then_exit ?_
                                                                                              refine WE.block_other rfl ?_
                                                                                              refine WE.then_exit ?_
                                                                                              refine WE.block_other rfl ?_
                                                                                              refine WE.then_exit ?_
                                                                                              refine WE.block_other rfl ?_
                                                                                              refine WE.then_exit ?_
                                                                                              refine WE.block_other rfl ?_
                                                                                              refine WE.then_exit ?_
                                                                                              refine WE.block_other rfl ?_
                                                                                              refine WE.then_exit ?_
                                                                                              refine WE.block_other rfl ?_
                                                                                              refine WE.then_exit ?_
                                                                                              refine WE.block_other rfl ?_
                                                                                              refine WE.then_exit ?_
                                                                                              refine WE.block_exit ?_
                                                                                              refine WE.then_normal ?_
                                                                                              refine WC.seq ?_
                                                                                              refine WC.region ?_
                                                                                              refine WL.indexAddr_arr rfl rfl tAr117_d tS4_d rfl (by first | omega) ?_
                                                                                              refine WL.store 0 rfl rfl rfl rfl tS4_d rfl rfl rfl rfl rfl ?_
                                                                                              refine WL.nil ?_
                                                                                              refine WE.then_normal ?_
                                                                                              refine WC.exit ?_
                                                                                              refine WE.block_exit ?_
                                                                                              refine WE.then_normal ?_
                                                                                              refine WC.seq ?_
                                                                                              refine WC.region ?_
                                                                                              refine WL.load_own_agg 0 rfl rfl tA117_d tS117_d rfl rfl ?_
                                                                                              refine WL.store 0 rfl rfl rfl rfl tS117_d rfl rfl rfl rfl rfl ?_
                                                                                              refine WL.nil ?_
                                                                                              refine WE.then_normal ?_
                                                                                              refine WC.ret ?_
                                                                                              refine WE.retVr rfl (.cons (.agg 0 rfl rfl tA117_d tS117_d rfl) .nil) rfl ?_
                                                                                              first
                                                                                                | rfl
                                                                                                | (refine congrArg (fun l : List Value => Value.agg l.toArray) ?_
                                                                                                   simp only [List.cons.injEq, Value.bool.injEq, and_true]
                                                                                                   refine ⟨?_, ?_, ?_, ?_⟩ <;> first | (simp [has0, has1, has2, has3, *]; done) | (simp [has0, has1, has2, has3]; omega))
                                                                                            )
                                                                                          · try simp at h24
                                                                                            all_goals (
                                                                                              refine WC.region ?_
                                                                                              refine WL.arith rfl rfl rfl rfl ?_
                                                                                              refine WL.assign rfl rfl ?_
                                                                                              refine WL.nil ?_
                                                                                              refine WE.then_normal ?_
                                                                                              refine WC.condT rfl (fun h25 => ?_) (fun h25 => ?_)
                                                                                              · try simp at h25
                                                                                                all_goals (
                                                                                                  refine WC.exit ?_
                                                                                                  refine WE.then_exit ?_
                                                                                                  refine WE.block_other rfl ?_
                                                                                                  refine WE.then_exit ?_
                                                                                                  refine WE.block_other rfl ?_
                                                                                                  refine WE.then_exit ?_
                                                                                                  refine WE.block_other rfl ?_
                                                                                                  refine WE.then_exit ?_
                                                                                                  refine WE.block_other rfl ?_
                                                                                                  refine WE.then_exit ?_
                                                                                                  refine WE.block_other rfl ?_
                                                                                                  refine WE.then_exit ?_
                                                                                                  refine WE.block_other rfl ?_
                                                                                                  refine WE.then_exit ?_
                                                                                                  refine WE.block_other rfl ?_
                                                                                                  refine WE.then_exit ?_
                                                                                                  refine WE.block_exit ?_
                                                                                                  refine WE.then_normal ?_
                                                                                                  refine WC.seq ?_
                                                                                                  refine WC.region ?_
                                                                                                  refine WL.indexAddr_arr rfl rfl tAr117_d tS4_d rfl (by first | omega) ?_
                                                                                                  refine WL.store 0 rfl rfl rfl rfl tS4_d rfl rfl rfl rfl rfl ?_
                                                                                                  refine WL.nil ?_
                                                                                                  refine WE.then_normal ?_
                                                                                                  refine WC.exit ?_
                                                                                                  refine WE.block_exit ?_
                                                                                                  refine WE.then_normal ?_
                                                                                                  refine WC.seq ?_
                                                                                                  refine WC.region ?_
                                                                                                  refine WL.load_own_agg 0 rfl rfl tA117_d tS117_d rfl rfl ?_
                                                                                                  refine WL.store 0 rfl rfl rfl rfl tS117_d rfl rfl rfl rfl rfl ?_
                                                                                                  refine WL.nil ?_
                                                                                                  refine WE.then_normal ?_
                                                                                                  refine WC.ret ?_
                                                                                                  refine WE.retVr rfl (.cons (.agg 0 rfl rfl tA117_d tS117_d rfl) .nil) rfl ?_
                                                                                                  first
                                                                                                    | rfl
                                                                                                    | (refine congrArg (fun l : List Value => Value.agg l.toArray) ?_
                                                                                                       simp only [List.cons.injEq, Value.bool.injEq, and_true]
                                                                                                       refine ⟨?_, ?_, ?_, ?_⟩ <;> first | (simp [has0, has1, has2, has3, *]; done) | (simp [has0, has1, has2, has3]; omega))
                                                                                                )
                                                                                              · try simp at h25
                                                                                                all_goals (
                                                                                                  refine WC.skip ?_
                                                                                                  refine WE.then_normal ?_
                                                                                                  refine WC.exit ?_
                                                                                                  refine WE.block_other rfl ?_
                                                                                                  refine WE.then_exit ?_
                                                                                                  refine WE.block_other rfl ?_
                                                                                                  refine WE.then_exit ?_
                                                                                                  refine WE.block_other rfl ?_
                                                                                                  refine WE.then_exit ?_
                                                                                                  refine WE.block_other rfl ?_
                                                                                                  refine WE.then_exit ?_
                                                                                                  refine WE.block_other rfl ?_
                                                                                                  refine WE.then_exit ?_
                                                                                                  refine WE.block_other rfl ?_
                                                                                                  refine WE.then_exit ?_
                                                                                                  refine WE.block_other rfl ?_
                                                                                                  refine WE.then_exit ?_
                                                                                                  refine WE.block_other rfl ?_
                                                                                                  refine WE.then_exit ?_
                                                                                                  refine WE.block_exit ?_
                                                                                                  refine WE.then_normal ?_
                                                                                                  refine WC.seq ?_
                                                                                                  refine WC.region ?_
                                                                                                  refine WL.load_own_agg 0 rfl rfl tA117_d tS117_d rfl rfl ?_
                                                                                                  refine WL.store 0 rfl rfl rfl rfl tS117_d rfl rfl rfl rfl rfl ?_
                                                                                                  refine WL.nil ?_
                                                                                                  refine WE.then_normal ?_
                                                                                                  refine WC.ret ?_
                                                                                                  refine WE.retVr rfl (.cons (.agg 0 rfl rfl tA117_d tS117_d rfl) .nil) rfl ?_
                                                                                                  first
                                                                                                    | rfl
                                                                                                    | (refine congrArg (fun l : List Value => Value.agg l.toArray) ?_
                                                                                                       simp only [List.cons.injEq, Value.bool.injEq, and_true]
                                                                                                       refine ⟨?_, ?_, ?_, ?_⟩ <;> first | (simp [has0, has1, has2, has3, *]; done) | (simp [has0, has1, has2, has3]; omega))
                                                                                                )
                                                                                            )
                                                                                        )
                                                                                    )
                                                                                )
                                                                            )
                                                                        )
                                                                    )
                                                                )
                                                            )
                                                        )
                                                    )
                                                )
                                            )
                                        )
                                    )
                                )
                            )
                        )
                    )
                )
            )
        )
    )
theorem parts_spec (i : InstrD) (I : Mem) (vs : List Value) (hi : InstrR I i vs) : SpecV Tryd.prog 75 [.agg vs.toArray] I (.agg [.int .i64 i.r, .int .i64 i.a, .int .i64 i.b, .int .i64 i.n].toArray) := by
  obtain ⟨rfl, hop, hr, ha, hb, hn⟩ := hi
  unfold Rg at hr ha hb hn
  refine SpecV.intro Tryd.func75 rfl rfl fun w0 => ?_
  show WC _ _ _ _ [] [(0, _)] _ _ _
  refine WC.seq ?_
  refine WC.region ?_
  refine WL.box rfl rfl rfl (fun b1 => ?_)
  refine WL.alloc tZ119_d rfl rfl (fun b2 => ?_)
  refine WL.nil ?_
  refine WE.then_normal ?_
  refine WC.seq ?_
  refine WC.region ?_
  refine WL.fieldAddr rfl tF75_1_d rfl ?_
  refine WL.load_own 1 rfl rfl tA3_d rfl rfl ?_
  refine WL.fieldAddr rfl tF75_2_d rfl ?_
  refine WL.load_own 1 rfl rfl tA3_d rfl rfl ?_
  refine WL.fieldAddr rfl tF75_3_d rfl ?_
  refine WL.load_own 1 rfl rfl tA3_d rfl rfl ?_
  refine WL.fieldAddr rfl tF75_4_d rfl ?_
  refine WL.load_own 1 rfl rfl tA2_d rfl rfl ?_
  refine WL.build_arr rfl tZ119_d tAr119_d tS2_d rfl rfl rfl ?_
  refine WL.store 0 rfl rfl rfl rfl tS119_d rfl rfl rfl rfl rfl ?_
  refine WL.nil ?_
  refine WE.then_normal ?_
  refine WC.ret ?_
  refine WE.retVr rfl (.cons (.agg 0 rfl rfl tA119_d tS119_d rfl) .nil) rfl ?_
  rfl
theorem plain_spec (i : InstrD) (I : Mem) (hsp : SpTab 0 I) (vs : List Value) (hi : InstrR I i vs) : SpecV Tryd.prog 53 [.agg vs.toArray] I (.bool (plainI i)) := by
  have hi0 := hi
  obtain ⟨rfl, hop, hr, ha, hb, hn⟩ := hi
  refine SpecV.intro Tryd.func53 rfl rfl fun w0 => ?_
  show WC _ _ _ _ [] [(0, _)] _ _ _
  refine WC.seq ?_
  refine WC.region ?_
  refine WL.box rfl rfl rfl (fun b1 => ?_)
  refine WL.assign rfl rfl ?_
  refine WL.nil ?_
  refine WE.then_normal ?_
  refine WC.seq ?_
  refine WC.seq ?_
  refine WC.region ?_
  refine WL.fieldAddr rfl tF75_0_d rfl ?_
  refine WL.load_own 0 rfl rfl tA73_d rfl rfl ?_
  refine WL.callV okF73_d rfl rfl (word_spec i.op I hsp hop.1) ?_
  refine WL.str_eql rfl rfl rfl ?_
  refine WL.nil ?_
  refine WE.then_normal ?_
  refine WC.condT rfl (fun h2 => ?_) (fun h2 => ?_)
  · try simp at h2
    all_goals (
      refine WC.seq ?_
      refine WC.region ?_
      refine WL.assign rfl rfl ?_
      refine WL.nil ?_
      refine WE.then_normal ?_
      refine WC.ret ?_
      refine WE.then_ret ?_
      refine WE.retV [2] rfl rfl rfl ?_
      first | (have hw := (wordS_iff i.op).1 ‹_›; simp [tupleOf, plainI, *]; done) | (have hw : 1 ≤ i.op ∧ i.op ≤ 25 := Decidable.byContradiction fun h => ‹¬ (wordS i.op).toList = []› ((wordS_iff i.op).2 h); simp [tupleOf, plainI, hw.1, hw.2, *]; done)
    )
  · try simp at h2
    all_goals (
      refine WC.skip ?_
      refine WE.then_normal ?_
      refine WC.seq ?_
      refine WC.region ?_
      refine WL.fieldAddr rfl tF75_0_d rfl ?_
      refine WL.load_own 0 rfl rfl tA73_d rfl rfl ?_
      refine WL.callV okF74_d rfl rfl (fields_spec i.op I hop.1) ?_
      refine WL.alloc tZ117_d rfl rfl (fun b3 => ?_)
      refine WL.store 0 rfl rfl rfl rfl tS117_d rfl rfl rfl rfl rfl ?_
      refine WL.nil ?_
      refine WE.then_normal ?_
      refine WC.seq ?_
      refine WC.seq ?_
      refine WC.region ?_
      refine WL.load_own_agg 1 rfl rfl tA75_d tS75_d rfl rfl ?_
      refine WL.callV okF75_d rfl rfl (parts_spec i I _ hi0) ?_
      refine WL.move rfl rfl ?_
      refine WL.nil ?_
      refine WE.then_normal ?_
      refine WC.block ?_
      refine WC.rounds 5 ?_
      refine WRo.step ?_
      refine WC.seq ?_
      refine WC.region ?_
      refine WL.arith rfl rfl rfl rfl ?_
      refine WL.nil ?_
      refine WE.then_normal ?_
      refine WC.seq ?_
      refine WC.cond_true rfl ?_
      refine WC.skip ?_
      refine WE.then_normal ?_
      refine WC.seq ?_
      refine WC.block ?_
      refine WC.seq ?_
      refine WC.region ?_
      refine WL.move rfl rfl ?_
      refine WL.index_arr rfl rfl tAr119_d tS2_d tA2_d rfl (by first | omega) rfl ?_
      refine WL.assign rfl rfl ?_
      refine WL.assign rfl rfl ?_
      refine WL.nil ?_
      refine WE.then_normal ?_
      refine WC.seq ?_
      refine WC.region ?_
      refine WL.cutV (X := Unit) [0, 1, 2, 3, 4, 5, 6, 7, 8, 9, 10, 11, 12, 13, 14, 15, 16, 17, 18, 39] rfl (fun _ => [(38, .bool (badPart (has0 i.op) i.r true))]) (fun _ => True) 20 rfl rfl ?_ (fun _ _ => ?_)
      · refine WL.move rfl rfl ?_
        refine WL.indexAddr_arr rfl rfl tAr117_d tS4_d rfl (by first | omega) ?_
        refine WL.load_own 0 rfl rfl tA4_d rfl rfl ?_
        refine WL.not rfl rfl ?_
        refine WL.move rfl rfl ?_
        refine WL.split 23 rfl (fun h4 => ?_) (fun h4 => ?_)
        · try simp at h4
          all_goals (
            refine WL.guard_yes rfl rfl ?_
            refine WL.move rfl rfl ?_
            refine WL.guard_yes rfl rfl ?_
            refine WL.arith rfl rfl rfl rfl ?_
            refine WL.pick_true rfl rfl rfl ?_
            refine WL.move rfl rfl ?_
            refine WL.split 27 rfl (fun h5 => ?_) (fun h5 => ?_)
            · try simp at h5
              all_goals (
                refine WL.guard_no rfl rfl rfl rfl ?_
                refine WL.guard_no rfl rfl rfl rfl ?_
                refine WL.guard_no rfl rfl rfl rfl ?_
                refine WL.guard_undef rfl rfl rfl ?_
                refine WL.guard_undef rfl rfl rfl ?_
                refine WL.guard_undef rfl rfl rfl ?_
                refine WL.guard_undef rfl rfl rfl ?_
                refine WL.guard_undef rfl rfl rfl ?_
                refine WL.guard_undef rfl rfl rfl ?_
                refine WL.guard_no rfl rfl rfl rfl ?_
                refine WL.pick_true rfl rfl rfl ?_
                refine WL.nil ?_
                refine WE.midV () trivial ⟨congrArg (fun b => some (Value.bool b)) (by first | rfl | (simp [badPart, *]; done) | (simp [badPart]; omega) | (simp [badPart, *]; omega)), trivial⟩ (by repeat (first | exact trivial | refine ⟨rfl, ?_⟩))
              )
            · try simp at h5
              all_goals (
                refine WL.guard_yes rfl rfl ?_
                refine WL.move rfl rfl ?_
                refine WL.guard_yes rfl rfl ?_
                refine WL.arith rfl rfl rfl rfl ?_
                refine WL.guard_yes rfl rfl ?_
                refine WL.move rfl rfl ?_
                refine WL.guard_yes rfl rfl ?_
                refine WL.move rfl rfl ?_
                refine WL.guard_yes rfl rfl ?_
                refine WL.arith rfl rfl rfl rfl ?_
                refine WL.guard_yes rfl rfl ?_
                refine WL.move rfl rfl ?_
                refine WL.split 33 rfl (fun h6 => ?_) (fun h6 => ?_)
                · try simp at h6
                  all_goals (
                    refine WL.guard_no rfl rfl rfl rfl ?_
                    refine WL.guard_no rfl rfl rfl rfl ?_
                    refine WL.guard_yes rfl rfl ?_
                    refine WL.pick_true rfl rfl rfl ?_
                    refine WL.guard_yes rfl rfl ?_
                    refine WL.pick_true rfl rfl rfl ?_
                    refine WL.pick_false rfl rfl rfl ?_
                    refine WL.nil ?_
                    refine WE.midV () trivial ⟨congrArg (fun b => some (Value.bool b)) (by first | rfl | (simp [badPart, *]; done) | (simp [badPart]; omega) | (simp [badPart, *]; omega)), trivial⟩ (by repeat (first | exact trivial | refine ⟨rfl, ?_⟩))
                  )
                · try simp at h6
                  all_goals (
                    refine WL.guard_yes rfl rfl ?_
                    refine WL.move rfl rfl ?_
                    refine WL.guard_yes rfl rfl ?_
                    refine WL.arith rfl rfl rfl rfl ?_
                    refine WL.guard_yes rfl rfl ?_
                    refine WL.pick_false rfl rfl rfl ?_
                    refine WL.guard_yes rfl rfl ?_
                    refine WL.pick_true rfl rfl rfl ?_
                    refine WL.pick_false rfl rfl rfl ?_
                    refine WL.nil ?_
                    refine WE.midV () trivial ⟨congrArg (fun b => some (Value.bool b)) (by first | rfl | (simp [badPart, *]; done) | (simp [badPart]; omega) | (simp [badPart, *]; omega)), trivial⟩ (by repeat (first | exact trivial | refine ⟨rfl, ?_⟩))
                  )
              )
          )
        · try simp at h4
          all_goals (
            refine WL.guard_no rfl rfl rfl rfl ?_
            refine WL.guard_no rfl rfl rfl rfl ?_
            refine WL.pick_false rfl rfl rfl ?_
            refine WL.move rfl rfl ?_
            refine WL.guard_yes rfl rfl ?_
            refine WL.move rfl rfl ?_
            refine WL.guard_yes rfl rfl ?_
            refine WL.arith rfl rfl rfl rfl ?_
            refine WL.guard_yes rfl rfl ?_
            refine WL.move rfl rfl ?_
            refine WL.guard_yes rfl rfl ?_
            refine WL.move rfl rfl ?_
            refine WL.guard_yes rfl rfl ?_
            refine WL.arith rfl rfl rfl rfl ?_
            refine WL.guard_yes rfl rfl ?_
            refine WL.move rfl rfl ?_
            refine WL.split 33 rfl (fun h7 => ?_) (fun h7 => ?_)
            · try simp at h7
              all_goals (
                refine WL.guard_no rfl rfl rfl rfl ?_
                refine WL.guard_no rfl rfl rfl rfl ?_
                refine WL.guard_yes rfl rfl ?_
                refine WL.pick_true rfl rfl rfl ?_
                refine WL.guard_yes rfl rfl ?_
                refine WL.pick_true rfl rfl rfl ?_
                refine WL.pick_false rfl rfl rfl ?_
                refine WL.nil ?_
                refine WE.midV () trivial ⟨congrArg (fun b => some (Value.bool b)) (by first | rfl | (simp [badPart, *]; done) | (simp [badPart]; omega) | (simp [badPart, *]; omega)), trivial⟩ (by repeat (first | exact trivial | refine ⟨rfl, ?_⟩))
              )
            · try simp at h7
              all_goals (
                refine WL.guard_yes rfl rfl ?_
                refine WL.move rfl rfl ?_
                refine WL.guard_yes rfl rfl ?_
                refine WL.arith rfl rfl rfl rfl ?_
                refine WL.guard_yes rfl rfl ?_
                refine WL.pick_false rfl rfl rfl ?_
                refine WL.guard_yes rfl rfl ?_
                refine WL.pick_true rfl rfl rfl ?_
                refine WL.pick_false rfl rfl rfl ?_
                refine WL.nil ?_
                refine WE.midV () trivial ⟨congrArg (fun b => some (Value.bool b)) (by first | rfl | (simp [badPart, *]; done) | (simp [badPart]; omega) | (simp [badPart, *]; omega)), trivial⟩ (by repeat (first | exact trivial | refine ⟨rfl, ?_⟩))
              )
          )
      · refine WL.nil ?_
        refine WE.then_normal ?_
        refine WC.condT rfl (fun h8 => ?_) (fun h8 => ?_)
        · try simp at h8
          all_goals (
            refine WC.seq ?_
            refine WC.region ?_
            refine WL.assign rfl rfl ?_
            refine WL.nil ?_
            refine WE.then_normal ?_
            refine WC.ret ?_
            refine WE.block_ret ?_
            refine WE.then_ret ?_
            refine WE.then_ret ?_
            refine WE.block_ret ?_
            refine WE.then_ret ?_
            refine WE.retV [2] rfl rfl rfl ?_
            first | (have hw := (wordS_iff i.op).1 ‹_›; simp [tupleOf, plainI, *]; done) | (have hw : 1 ≤ i.op ∧ i.op ≤ 25 := Decidable.byContradiction fun h => ‹¬ (wordS i.op).toList = []› ((wordS_iff i.op).2 h); simp [tupleOf, plainI, hw.1, hw.2, *]; done)
          )
        · try simp at h8
          all_goals (
            refine WC.skip ?_
            refine WE.block_normal ?_
            refine WE.then_normal ?_
            refine WC.region ?_
            first | refine WL.add rfl rfl (by omega) rfl ?_ | refine WL.arith rfl rfl rfl rfl ?_
            refine WL.move rfl rfl ?_
            refine WL.nil ?_
            refine WE.then_rounds ?_
            refine WRo.step ?_
            refine WC.seq ?_
            refine WC.region ?_
            refine WL.arith rfl rfl rfl rfl ?_
            refine WL.nil ?_
            refine WE.then_normal ?_
            refine WC.seq ?_
            refine WC.cond_true rfl ?_
            refine WC.skip ?_
            refine WE.then_normal ?_
            refine WC.seq ?_
            refine WC.block ?_
            refine WC.seq ?_
            refine WC.region ?_
            refine WL.move rfl rfl ?_
            refine WL.index_arr rfl rfl tAr119_d tS2_d tA2_d rfl (by first | omega) rfl ?_
            refine WL.assign rfl rfl ?_
            refine WL.assign rfl rfl ?_
            refine WL.nil ?_
            refine WE.then_normal ?_
            refine WC.seq ?_
            refine WC.region ?_
            refine WL.cutV (X := Unit) [0, 1, 2, 3, 4, 5, 6, 7, 8, 9, 10, 11, 12, 13, 14, 15, 16, 17, 18, 39] rfl (fun _ => [(38, .bool (badPart (has1 i.op) i.a true))]) (fun _ => True) 20 rfl rfl ?_ (fun _ _ => ?_)
            · refine WL.move rfl rfl ?_
              refine WL.indexAddr_arr rfl rfl tAr117_d tS4_d rfl (by first | omega) ?_
              refine WL.load_own 0 rfl rfl tA4_d rfl rfl ?_
              refine WL.not rfl rfl ?_
              refine WL.move rfl rfl ?_
              refine WL.split 23 rfl (fun h9 => ?_) (fun h9 => ?_)
              · try simp at h9
                all_goals (
                  refine WL.guard_yes rfl rfl ?_
                  refine WL.move rfl rfl ?_
                  refine WL.guard_yes rfl rfl ?_
                  refine WL.arith rfl rfl rfl rfl ?_
                  refine WL.pick_true rfl rfl rfl ?_
                  refine WL.move rfl rfl ?_
                  refine WL.split 27 rfl (fun h10 => ?_) (fun h10 => ?_)
                  · try simp at h10
                    all_goals (
                      refine WL.guard_no rfl rfl rfl rfl ?_
                      refine WL.guard_no rfl rfl rfl rfl ?_
                      refine WL.guard_no rfl rfl rfl rfl ?_
                      refine WL.guard_undef rfl rfl rfl ?_
                      refine WL.guard_undef rfl rfl rfl ?_
                      refine WL.guard_undef rfl rfl rfl ?_
                      refine WL.guard_undef rfl rfl rfl ?_
                      refine WL.guard_undef rfl rfl rfl ?_
                      refine WL.guard_undef rfl rfl rfl ?_
                      refine WL.guard_no rfl rfl rfl rfl ?_
                      refine WL.pick_true rfl rfl rfl ?_
                      refine WL.nil ?_
                      refine WE.midV () trivial ⟨congrArg (fun b => some (Value.bool b)) (by first | rfl | (simp [badPart, *]; done) | (simp [badPart]; omega) | (simp [badPart, *]; omega)), trivial⟩ (by repeat (first | exact trivial | refine ⟨rfl, ?_⟩))
                    )
                  · try simp at h10
                    all_goals (
                      refine WL.guard_yes rfl rfl ?_
                      refine WL.move rfl rfl ?_
                      refine WL.guard_yes rfl rfl ?_
                      refine WL.arith rfl rfl rfl rfl ?_
                      refine WL.guard_yes rfl rfl ?_
                      refine WL.move rfl rfl ?_
                      refine WL.guard_yes rfl rfl ?_
                      refine WL.move rfl rfl ?_
                      refine WL.guard_yes rfl rfl ?_
                      refine WL.arith rfl rfl rfl rfl ?_
                      refine WL.guard_yes rfl rfl ?_
                      refine WL.move rfl rfl ?_
                      refine WL.split 33 rfl (fun h11 => ?_) (fun h11 => ?_)
                      · try simp at h11
                        all_goals (
                          refine WL.guard_no rfl rfl rfl rfl ?_
                          refine WL.guard_no rfl rfl rfl rfl ?_
                          refine WL.guard_yes rfl rfl ?_
                          refine WL.pick_true rfl rfl rfl ?_
                          refine WL.guard_yes rfl rfl ?_
                          refine WL.pick_true rfl rfl rfl ?_
                          refine WL.pick_false rfl rfl rfl ?_
                          refine WL.nil ?_
                          refine WE.midV () trivial ⟨congrArg (fun b => some (Value.bool b)) (by first | rfl | (simp [badPart, *]; done) | (simp [badPart]; omega) | (simp [badPart, *]; omega)), trivial⟩ (by repeat (first | exact trivial | refine ⟨rfl, ?_⟩))
                        )
                      · try simp at h11
                        all_goals (
                          refine WL.guard_yes rfl rfl ?_
                          refine WL.move rfl rfl ?_
                          refine WL.guard_yes rfl rfl ?_
                          refine WL.arith rfl rfl rfl rfl ?_
                          refine WL.guard_yes rfl rfl ?_
                          refine WL.pick_false rfl rfl rfl ?_
                          refine WL.guard_yes rfl rfl ?_
                          refine WL.pick_true rfl rfl rfl ?_
                          refine WL.pick_false rfl rfl rfl ?_
                          refine WL.nil ?_
                          refine WE.midV () trivial ⟨congrArg (fun b => some (Value.bool b)) (by first | rfl | (simp [badPart, *]; done) | (simp [badPart]; omega) | (simp [badPart, *]; omega)), trivial⟩ (by repeat (first | exact trivial | refine ⟨rfl, ?_⟩))
                        )
                    )
                )
              · try simp at h9
                all_goals (
                  refine WL.guard_no rfl rfl rfl rfl ?_
                  refine WL.guard_no rfl rfl rfl rfl ?_
                  refine WL.pick_false rfl rfl rfl ?_
                  refine WL.move rfl rfl ?_
                  refine WL.guard_yes rfl rfl ?_
                  refine WL.move rfl rfl ?_
                  refine WL.guard_yes rfl rfl ?_
                  refine WL.arith rfl rfl rfl rfl ?_
                  refine WL.guard_yes rfl rfl ?_
                  refine WL.move rfl rfl ?_
                  refine WL.guard_yes rfl rfl ?_
                  refine WL.move rfl rfl ?_
                  refine WL.guard_yes rfl rfl ?_
                  refine WL.arith rfl rfl rfl rfl ?_
                  refine WL.guard_yes rfl rfl ?_
                  refine WL.move rfl rfl ?_
                  refine WL.split 33 rfl (fun h12 => ?_) (fun h12 => ?_)
                  · try simp at h12
                    all_goals (
                      refine WL.guard_no rfl rfl rfl rfl ?_
                      refine WL.guard_no rfl rfl rfl rfl ?_
                      refine WL.guard_yes rfl rfl ?_
                      refine WL.pick_true rfl rfl rfl ?_
                      refine WL.guard_yes rfl rfl ?_
                      refine WL.pick_true rfl rfl rfl ?_
                      refine WL.pick_false rfl rfl rfl ?_
                      refine WL.nil ?_
                      refine WE.midV () trivial ⟨congrArg (fun b => some (Value.bool b)) (by first | rfl | (simp [badPart, *]; done) | (simp [badPart]; omega) | (simp [badPart, *]; omega)), trivial⟩ (by repeat (first | exact trivial | refine ⟨rfl, ?_⟩))
                    )
                  · try simp at h12
                    all_goals (
                      refine WL.guard_yes rfl rfl ?_
                      refine WL.move rfl rfl ?_
                      refine WL.guard_yes rfl rfl ?_
                      refine WL.arith rfl rfl rfl rfl ?_
                      refine WL.guard_yes rfl rfl ?_
                      refine WL.pick_false rfl rfl rfl ?_
                      refine WL.guard_yes rfl rfl ?_
                      refine WL.pick_true rfl rfl rfl ?_
                      refine WL.pick_false rfl rfl rfl ?_
                      refine WL.nil ?_
                      refine WE.midV () trivial ⟨congrArg (fun b => some (Value.bool b)) (by first | rfl | (simp [badPart, *]; done) | (simp [badPart]; omega) | (simp [badPart, *]; omega)), trivial⟩ (by repeat (first | exact trivial | refine ⟨rfl, ?_⟩))
                    )
                )
            · refine WL.nil ?_
              refine WE.then_normal ?_
              refine WC.condT rfl (fun h13 => ?_) (fun h13 => ?_)
              · try simp at h13
                all_goals (
                  refine WC.seq ?_
                  refine WC.region ?_
                  refine WL.assign rfl rfl ?_
                  refine WL.nil ?_
                  refine WE.then_normal ?_
                  refine WC.ret ?_
                  refine WE.block_ret ?_
                  refine WE.then_ret ?_
                  refine WE.then_ret ?_
                  refine WE.block_ret ?_
                  refine WE.then_ret ?_
                  refine WE.retV [2] rfl rfl rfl ?_
                  first | (have hw := (wordS_iff i.op).1 ‹_›; simp [tupleOf, plainI, *]; done) | (have hw : 1 ≤ i.op ∧ i.op ≤ 25 := Decidable.byContradiction fun h => ‹¬ (wordS i.op).toList = []› ((wordS_iff i.op).2 h); simp [tupleOf, plainI, hw.1, hw.2, *]; done)
                )
              · try simp at h13
                all_goals (
                  refine WC.skip ?_
                  refine WE.block_normal ?_
                  refine WE.then_normal ?_
                  refine WC.region ?_
                  first | refine WL.add rfl rfl (by omega) rfl ?_ | refine WL.arith rfl rfl rfl rfl ?_
                  refine WL.move rfl rfl ?_
                  refine WL.nil ?_
                  refine WE.then_rounds ?_
                  refine WRo.step ?_
                  refine WC.seq ?_
                  refine WC.region ?_
                  refine WL.arith rfl rfl rfl rfl ?_
                  refine WL.nil ?_
                  refine WE.then_normal ?_
                  refine WC.seq ?_
                  refine WC.cond_true rfl ?_
                  refine WC.skip ?_
                  refine WE.then_normal ?_
                  refine WC.seq ?_
                  refine WC.block ?_
                  refine WC.seq ?_
                  refine WC.region ?_
                  refine WL.move rfl rfl ?_
                  refine WL.index_arr rfl rfl tAr119_d tS2_d tA2_d rfl (by first | omega) rfl ?_
                  refine WL.assign rfl rfl ?_
                  refine WL.assign rfl rfl ?_
                  refine WL.nil ?_
                  refine WE.then_normal ?_
                  refine WC.seq ?_
                  refine WC.region ?_
                  refine WL.cutV (X := Unit) [0, 1, 2, 3, 4, 5, 6, 7, 8, 9, 10, 11, 12, 13, 14, 15, 16, 17, 18, 39] rfl (fun _ => [(38, .bool (badPart (has2 i.op) i.b true))]) (fun _ => True) 20 rfl rfl ?_ (fun _ _ => ?_)
                  · refine WL.move rfl rfl ?_
                    refine WL.indexAddr_arr rfl rfl tAr117_d tS4_d rfl (by first | omega) ?_
                    refine WL.load_own 0 rfl rfl tA4_d rfl rfl ?_
                    refine WL.not rfl rfl ?_
                    refine WL.move rfl rfl ?_
                    refine WL.split 23 rfl (fun h14 => ?_) (fun h14 => ?_)
                    · try simp at h14
                      all_goals (
                        refine WL.guard_yes rfl rfl ?_
                        refine WL.move rfl rfl ?_
                        refine WL.guard_yes rfl rfl ?_
                        refine WL.arith rfl rfl rfl rfl ?_
                        refine WL.pick_true rfl rfl rfl ?_
                        refine WL.move rfl rfl ?_
                        refine WL.split 27 rfl (fun h15 => ?_) (fun h15 => ?_)
                        · try simp at h15
                          all_goals (
                            refine WL.guard_no rfl rfl rfl rfl ?_
                            refine WL.guard_no rfl rfl rfl rfl ?_
                            refine WL.guard_no rfl rfl rfl rfl ?_
                            refine WL.guard_undef rfl rfl rfl ?_
                            refine WL.guard_undef rfl rfl rfl ?_
                            refine WL.guard_undef rfl rfl rfl ?_
                            refine WL.guard_undef rfl rfl rfl ?_
                            refine WL.guard_undef rfl rfl rfl ?_
                            refine WL.guard_undef rfl rfl rfl ?_
                            refine WL.guard_no rfl rfl rfl rfl ?_
                            refine WL.pick_true rfl rfl rfl ?_
                            refine WL.nil ?_
                            refine WE.midV () trivial ⟨congrArg (fun b => some (Value.bool b)) (by first | rfl | (simp [badPart, *]; done) | (simp [badPart]; omega) | (simp [badPart, *]; omega)), trivial⟩ (by repeat (first | exact trivial | refine ⟨rfl, ?_⟩))
                          )
                        · try simp at h15
                          all_goals (
                            refine WL.guard_yes rfl rfl ?_
                            refine WL.move rfl rfl ?_
                            refine WL.guard_yes rfl rfl ?_
                            refine WL.arith rfl rfl rfl rfl ?_
                            refine WL.guard_yes rfl rfl ?_
                            refine WL.move rfl rfl ?_
                            refine WL.guard_yes rfl rfl ?_
                            refine WL.move rfl rfl ?_
                            refine WL.guard_yes rfl rfl ?_
                            refine WL.arith rfl rfl rfl rfl ?_
                            refine WL.guard_yes rfl rfl ?_
                            refine WL.move rfl rfl ?_
                            refine WL.split 33 rfl (fun h16 => ?_) (fun h16 => ?_)
                            · try simp at h16
                              all_goals (
                                refine WL.guard_no rfl rfl rfl rfl ?_
                                refine WL.guard_no rfl rfl rfl rfl ?_
                                refine WL.guard_yes rfl rfl ?_
                                refine WL.pick_true rfl rfl rfl ?_
                                refine WL.guard_yes rfl rfl ?_
                                refine WL.pick_true rfl rfl rfl ?_
                                refine WL.pick_false rfl rfl rfl ?_
                                refine WL.nil ?_
                                refine WE.midV () trivial ⟨congrArg (fun b => some (Value.bool b)) (by first | rfl | (simp [badPart, *]; done) | (simp [badPart]; omega) | (simp [badPart, *]; omega)), trivial⟩ (by repeat (first | exact trivial | refine ⟨rfl, ?_⟩))
                              )
                            · try simp at h16
                              all_goals (
                                refine WL.guard_yes rfl rfl ?_
                                refine WL.move rfl rfl ?_
                                refine WL.guard_yes rfl rfl ?_
                                refine WL.arith rfl rfl rfl rfl ?_
                                refine WL.guard_yes rfl rfl ?_
                                refine WL.pick_false rfl rfl rfl ?_
                                refine WL.guard_yes rfl rfl ?_
                                refine WL.pick_true rfl rfl rfl ?_
                                refine WL.pick_false rfl rfl rfl ?_
                                refine WL.nil ?_
                                refine WE.midV () trivial ⟨congrArg (fun b => some (Value.bool b)) (by first | rfl | (simp [badPart, *]; done) | (simp [badPart]; omega) | (simp [badPart, *]; omega)), trivial⟩ (by repeat (first | exact trivial | refine ⟨rfl, ?_⟩))
                              )
                          )
                      )
                    · try simp at h14
                      all_goals (
                        refine WL.guard_no rfl rfl rfl rfl ?_
                        refine WL.guard_no rfl rfl rfl rfl ?_
                        refine WL.pick_false rfl rfl rfl ?_
                        refine WL.move rfl rfl ?_
                        refine WL.guard_yes rfl rfl ?_
                        refine WL.move rfl rfl ?_
                        refine WL.guard_yes rfl rfl ?_
                        refine WL.arith rfl rfl rfl rfl ?_
                        refine WL.guard_yes rfl rfl ?_
                        refine WL.move rfl rfl ?_
                        refine WL.guard_yes rfl rfl ?_
                        refine WL.move rfl rfl ?_
                        refine WL.guard_yes rfl rfl ?_
                        refine WL.arith rfl rfl rfl rfl ?_
                        refine WL.guard_yes rfl rfl ?_
                        refine WL.move rfl rfl ?_
                        refine WL.split 33 rfl (fun h17 => ?_) (fun h17 => ?_)
                        · try simp at h17
                          all_goals (
                            refine WL.guard_no rfl rfl rfl rfl ?_
                            refine WL.guard_no rfl rfl rfl rfl ?_
                            refine WL.guard_yes rfl rfl ?_
                            refine WL.pick_true rfl rfl rfl ?_
                            refine WL.guard_yes rfl rfl ?_
                            refine WL.pick_true rfl rfl rfl ?_
                            refine WL.pick_false rfl rfl rfl ?_
                            refine WL.nil ?_
                            refine WE.midV () trivial ⟨congrArg (fun b => some (Value.bool b)) (by first | rfl | (simp [badPart, *]; done) | (simp [badPart]; omega) | (simp [badPart, *]; omega)), trivial⟩ (by repeat (first | exact trivial | refine ⟨rfl, ?_⟩))
                          )
                        · try simp at h17
                          all_goals (
                            refine WL.guard_yes rfl rfl ?_
                            refine WL.move rfl rfl ?_
                            refine WL.guard_yes rfl rfl ?_
                            refine WL.arith rfl rfl rfl rfl ?_
                            refine WL.guard_yes rfl rfl ?_
                            refine WL.pick_false rfl rfl rfl ?_
                            refine WL.guard_yes rfl rfl ?_
                            refine WL.pick_true rfl rfl rfl ?_
                            refine WL.pick_false rfl rfl rfl ?_
                            refine WL.nil ?_
                            refine WE.midV () trivial ⟨congrArg (fun b => some (Value.bool b)) (by first | rfl | (simp [badPart, *]; done) | (simp [badPart]; omega) | (simp [badPart, *]; omega)), trivial⟩ (by repeat (first | exact trivial | refine ⟨rfl, ?_⟩))
                          )
                      )
                  · refine WL.nil ?_
                    refine WE.then_normal ?_
                    refine WC.condT rfl (fun h18 => ?_) (fun h18 => ?_)
                    · try simp at h18
                      all_goals (
                        refine WC.seq ?_
                        refine WC.region ?_
                        refine WL.assign rfl rfl ?_
                        refine WL.nil ?_
                        refine WE.then_normal ?_
                        refine WC.ret ?_
                        refine WE.block_ret ?_
                        refine WE.then_ret ?_
                        refine WE.then_ret ?_
                        refine WE.block_ret ?_
                        refine WE.then_ret ?_
                        refine WE.retV [2] rfl rfl rfl ?_
                        first | (have hw := (wordS_iff i.op).1 ‹_›; simp [tupleOf, plainI, *]; done) | (have hw : 1 ≤ i.op ∧ i.op ≤ 25 := Decidable.byContradiction fun h => ‹¬ (wordS i.op).toList = []› ((wordS_iff i.op).2 h); simp [tupleOf, plainI, hw.1, hw.2, *]; done)
                      )
                    · try simp at h18
                      all_goals (
                        refine WC.skip ?_
                        refine WE.block_normal ?_
                        refine WE.then_normal ?_
                        refine WC.region ?_
                        first | refine WL.add rfl rfl (by omega) rfl ?_ | refine WL.arith rfl rfl rfl rfl ?_
                        refine WL.move rfl rfl ?_
                        refine WL.nil ?_
                        refine WE.then_rounds ?_
                        refine WRo.step ?_
                        refine WC.seq ?_
                        refine WC.region ?_
                        refine WL.arith rfl rfl rfl rfl ?_
                        refine WL.nil ?_
                        refine WE.then_normal ?_
                        refine WC.seq ?_
                        refine WC.cond_true rfl ?_
                        refine WC.skip ?_
                        refine WE.then_normal ?_
                        refine WC.seq ?_
                        refine WC.block ?_
                        refine WC.seq ?_
                        refine WC.region ?_
                        refine WL.move rfl rfl ?_
                        refine WL.index_arr rfl rfl tAr119_d tS2_d tA2_d rfl (by first | omega) rfl ?_
                        refine WL.assign rfl rfl ?_
                        refine WL.assign rfl rfl ?_
                        refine WL.nil ?_
                        refine WE.then_normal ?_
                        refine WC.seq ?_
                        refine WC.region ?_
                        refine WL.cutV (X := Unit) [0, 1, 2, 3, 4, 5, 6, 7, 8, 9, 10, 11, 12, 13, 14, 15, 16, 17, 18, 39] rfl (fun _ => [(38, .bool (badPart (has3 i.op) i.n false))]) (fun _ => True) 20 rfl rfl ?_ (fun _ _ => ?_)
                        · refine WL.move rfl rfl ?_
                          refine WL.indexAddr_arr rfl rfl tAr117_d tS4_d rfl (by first | omega) ?_
                          refine WL.load_own 0 rfl rfl tA4_d rfl rfl ?_
                          refine WL.not rfl rfl ?_
                          refine WL.move rfl rfl ?_
                          refine WL.split 23 rfl (fun h19 => ?_) (fun h19 => ?_)
                          · try simp at h19
                            all_goals (
                              refine WL.guard_yes rfl rfl ?_
                              refine WL.move rfl rfl ?_
                              refine WL.guard_yes rfl rfl ?_
                              refine WL.arith rfl rfl rfl rfl ?_
                              refine WL.pick_true rfl rfl rfl ?_
                              refine WL.move rfl rfl ?_
                              refine WL.split 27 rfl (fun h20 => ?_) (fun h20 => ?_)
                              · try simp at h20
                                all_goals (
                                  refine WL.guard_no rfl rfl rfl rfl ?_
                                  refine WL.guard_no rfl rfl rfl rfl ?_
                                  refine WL.guard_no rfl rfl rfl rfl ?_
                                  refine WL.guard_undef rfl rfl rfl ?_
                                  refine WL.guard_undef rfl rfl rfl ?_
                                  refine WL.guard_undef rfl rfl rfl ?_
                                  refine WL.guard_undef rfl rfl rfl ?_
                                  refine WL.guard_undef rfl rfl rfl ?_
                                  refine WL.guard_undef rfl rfl rfl ?_
                                  refine WL.guard_no rfl rfl rfl rfl ?_
                                  refine WL.pick_true rfl rfl rfl ?_
                                  refine WL.nil ?_
                                  refine WE.midV () trivial ⟨congrArg (fun b => some (Value.bool b)) (by first | rfl | (simp [badPart, *]; done) | (simp [badPart]; omega) | (simp [badPart, *]; omega)), trivial⟩ (by repeat (first | exact trivial | refine ⟨rfl, ?_⟩))
                                )
                              · try simp at h20
                                all_goals (
                                  refine WL.guard_yes rfl rfl ?_
                                  refine WL.move rfl rfl ?_
                                  refine WL.guard_yes rfl rfl ?_
                                  refine WL.arith rfl rfl rfl rfl ?_
                                  refine WL.guard_yes rfl rfl ?_
                                  refine WL.move rfl rfl ?_
                                  refine WL.guard_no rfl rfl rfl rfl ?_
                                  refine WL.guard_no rfl rfl rfl rfl ?_
                                  refine WL.guard_no rfl rfl rfl rfl ?_
                                  refine WL.guard_undef rfl rfl rfl ?_
                                  refine WL.guard_undef rfl rfl rfl ?_
                                  refine WL.guard_no rfl rfl rfl rfl ?_
                                  refine WL.guard_yes rfl rfl ?_
                                  refine WL.pick_false rfl rfl rfl ?_
                                  refine WL.pick_false rfl rfl rfl ?_
                                  refine WL.nil ?_
                                  refine WE.midV () trivial ⟨congrArg (fun b => some (Value.bool b)) (by first | rfl | (simp [badPart, *]; done) | (simp [badPart]; omega) | (simp [badPart, *]; omega)), trivial⟩ (by repeat (first | exact trivial | refine ⟨rfl, ?_⟩))
                                )
                            )
                          · try simp at h19
                            all_goals (
                              refine WL.guard_no rfl rfl rfl rfl ?_
                              refine WL.guard_no rfl rfl rfl rfl ?_
                              refine WL.pick_false rfl rfl rfl ?_
                              refine WL.move rfl rfl ?_
                              refine WL.guard_yes rfl rfl ?_
                              refine WL.move rfl rfl ?_
                              refine WL.guard_yes rfl rfl ?_
                              refine WL.arith rfl rfl rfl rfl ?_
                              refine WL.guard_yes rfl rfl ?_
                              refine WL.move rfl rfl ?_
                              refine WL.guard_no rfl rfl rfl rfl ?_
                              refine WL.guard_no rfl rfl rfl rfl ?_
                              refine WL.guard_no rfl rfl rfl rfl ?_
                              refine WL.guard_undef rfl rfl rfl ?_
                              refine WL.guard_undef rfl rfl rfl ?_
                              refine WL.guard_no rfl rfl rfl rfl ?_
                              refine WL.guard_yes rfl rfl ?_
                              refine WL.pick_false rfl rfl rfl ?_
                              refine WL.pick_false rfl rfl rfl ?_
                              refine WL.nil ?_
                              refine WE.midV () trivial ⟨congrArg (fun b => some (Value.bool b)) (by first | rfl | (simp [badPart, *]; done) | (simp [badPart]; omega) | (simp [badPart, *]; omega)), trivial⟩ (by repeat (first | exact trivial | refine ⟨rfl, ?_⟩))
                            )
                        · refine WL.nil ?_
                          refine WE.then_normal ?_
                          refine WC.condT rfl (fun h21 => ?_) (fun h21 => ?_)
                          · try simp at h21
                            all_goals (
                              refine WC.seq ?_
                              refine WC.region ?_
                              refine WL.assign rfl rfl ?_
                              refine WL.nil ?_
                              refine WE.then_normal ?_
                              refine WC.ret ?_
                              refine WE.block_ret ?_
                              refine WE.then_ret ?_
                              refine WE.then_ret ?_
                              refine WE.block_ret ?_
                              refine WE.then_ret ?_
                              refine WE.retV [2] rfl rfl rfl ?_
                              first | (have hw := (wordS_iff i.op).1 ‹_›; simp [tupleOf, plainI, *]; done) | (have hw : 1 ≤ i.op ∧ i.op ≤ 25 := Decidable.byContradiction fun h => ‹¬ (wordS i.op).toList = []› ((wordS_iff i.op).2 h); simp [tupleOf, plainI, hw.1, hw.2, *]; done)
                            )
                          · try simp at h21
                            all_goals (
                              refine WC.skip ?_
                              refine WE.block_normal ?_
                              refine WE.then_normal ?_
                              refine WC.region ?_
                              first | refine WL.add rfl rfl (by omega) rfl ?_ | refine WL.arith rfl rfl rfl rfl ?_
                              refine WL.move rfl rfl ?_
                              refine WL.nil ?_
                              refine WE.then_rounds ?_
                              refine WRo.step ?_
                              refine WC.seq ?_
                              refine WC.region ?_
                              refine WL.arith rfl rfl rfl rfl ?_
                              refine WL.nil ?_
                              refine WE.then_normal ?_
                              refine WC.seq ?_
                              refine WC.cond_false rfl ?_
                              refine WC.exit ?_
                              refine WE.then_exit ?_
                              refine WE.then_exit ?_
                              refine WE.block_exit ?_
                              refine WE.then_normal ?_
                              refine WC.seq ?_
                              refine WC.region ?_
                              refine WL.assign rfl rfl ?_
                              refine WL.nil ?_
                              refine WE.then_normal ?_
                              refine WC.ret ?_
                              refine WE.retV [2] rfl rfl rfl ?_
                              first | (have hw := (wordS_iff i.op).1 ‹_›; simp [tupleOf, plainI, *]; done) | (have hw : 1 ≤ i.op ∧ i.op ≤ 25 := Decidable.byContradiction fun h => ‹¬ (wordS i.op).toList = []› ((wordS_iff i.op).2 h); simp [tupleOf, plainI, hw.1, hw.2, *]; done)
                            )
                      )
                )
          )
    )
theorem btw_spec (lo hi' : Int) (i : InstrD) (I : Mem) (b off : Nat) (vs : List Value) (hi : InstrR I i vs) (hrow : I.row b off vs) (h1 : Rg lo) (h2 : Rg hi') : SpecV Tryd.prog 76 ([] ++ [.int .i64 lo, .int .i64 hi'] ++ [.pointer (some ⟨b, off, none⟩)]) I (.bool (btw lo hi' i.n)) := by
  obtain ⟨rfl, hop, hr, ha, hb, hn⟩ := hi
  unfold Rg at h1 h2
  refine SpecV.intro Tryd.func76 rfl rfl fun w0 => ?_
  show WC _ _ _ _ [] [(0, _), (1, _), (2, _)] _ _ _
  refine WC.seq ?_
  refine WC.region ?_
  refine WL.assign rfl rfl ?_
  refine WL.nil ?_
  refine WE.then_normal ?_
  refine WC.seq ?_
  refine WC.region ?_
  refine WL.fieldAddr rfl tF75_4_d rfl ?_
  refine WL.load_imm rfl tA2_d rfl (by first | exact hrow _ _ rfl) ?_
  refine WL.move rfl rfl ?_
  refine WL.arith rfl rfl rfl rfl ?_
  refine WL.move rfl rfl ?_
  refine WL.split 10 rfl (fun h1 => ?_) (fun h1 => ?_)
  · try simp at h1
    all_goals (
      refine WL.guard_yes rfl rfl ?_
      refine WL.fieldAddr rfl tF75_4_d rfl ?_
      refine WL.guard_yes rfl rfl ?_
      refine WL.load_imm rfl tA2_d rfl (by first | exact hrow _ _ rfl) ?_
      refine WL.guard_yes rfl rfl ?_
      refine WL.move rfl rfl ?_
      refine WL.guard_yes rfl rfl ?_
      refine WL.arith rfl rfl rfl rfl ?_
      refine WL.pick_true rfl rfl rfl ?_
      refine WL.assign rfl rfl ?_
      refine WL.nil ?_
      refine WE.then_normal ?_
      refine WC.ret ?_
      refine WE.retV [5] rfl rfl rfl ?_
      first | (simp [tupleOf, btw, *]; done) | (simp [tupleOf, btw, *]; omega)
    )
  · try simp at h1
    all_goals (
      refine WL.guard_no rfl rfl rfl rfl ?_
      refine WL.guard_no rfl rfl rfl rfl ?_
      refine WL.guard_no rfl rfl rfl rfl ?_
      refine WL.guard_no rfl rfl rfl rfl ?_
      refine WL.pick_false rfl rfl rfl ?_
      refine WL.assign rfl rfl ?_
      refine WL.nil ?_
      refine WE.then_normal ?_
      refine WC.ret ?_
      refine WE.retV [5] rfl rfl rfl ?_
      first | (simp [tupleOf, btw, *]; done) | (simp [tupleOf, btw, *]; omega)
    )
theorem end_spec (c : CodeD) (fn : Int) (I : Mem) (v1 v2 v3 : Value) (hc : CodeC I c v1 v2 v3) (h0 : -1 ≤ fn) (h1 : fn ≤ 65536) : SpecV Tryd.prog 58 [.agg [v1, v2, v3, .int .i64 c.main].toArray, .int .i64 fn] I (.int .i64 (endI c fn)) := by
  obtain ⟨hs1, hs2, hs3, hmain⟩ := hc
  obtain ⟨A1, k1, rfl, hm1, hc1, hS1⟩ := hs1
  obtain ⟨A2, k2, rfl, hm2, hc2, hS2⟩ := hs2
  obtain ⟨A3, k3, rfl, hm3, hc3, hS3⟩ := hs3
  unfold Rg at hmain
  refine SpecV.intro Tryd.func58 rfl rfl fun w0 => ?_
  show WC _ _ _ _ [] [(0, _), (1, _)] _ _ _
  refine WC.seq ?_
  refine WC.region ?_
  refine WL.box rfl rfl rfl (fun b1 => ?_)
  refine WL.assign rfl rfl ?_
  refine WL.nil ?_
  refine WE.then_normal ?_
  refine WC.seq ?_
  refine WC.seq ?_
  refine WC.region ?_
  refine WL.move rfl rfl ?_
  first | refine WL.add rfl rfl (by omega) rfl ?_ | refine WL.arith rfl rfl rfl rfl ?_
  refine WL.fieldAddr rfl tF26_1_d rfl ?_
  refine WL.load_own 0 rfl rfl tA23_d rfl rfl ?_
  refine WL.len_slice rfl tE23_d rfl ?_
  refine WL.arith rfl rfl rfl rfl ?_
  refine WL.nil ?_
  refine WE.then_normal ?_
  refine WC.condT rfl (fun h2 => ?_) (fun h2 => ?_)
  · try simp only [decide_eq_true_eq, decide_eq_false_iff_not, beq_iff_eq, bne_iff_ne, ne_eq, beq_eq_false_iff_ne, bne_eq_false_iff_eq, Bool.not_eq_true', Bool.not_eq_false', gt_iff_lt, ge_iff_le] at h2
    all_goals (
      refine WC.seq ?_
      refine WC.region ?_
      refine WL.fieldAddr rfl tF26_1_d rfl ?_
      refine WL.load_own 0 rfl rfl tA23_d rfl rfl ?_
      refine WL.move rfl rfl ?_
      first | refine WL.add rfl rfl (by omega) rfl ?_ | refine WL.arith rfl rfl rfl rfl ?_
      obtain ⟨f1, hf1⟩ : ∃ f1, c.fns[(fn + 1).toNat]? = some f1 := ⟨_, List.getElem?_eq_getElem (by omega)⟩
      obtain ⟨b, off, us, rfl, hul, hrow, rfl, hr1, hr2, hr3⟩ := hS2 _ f1 hf1
      refine WL.indexAddr rfl rfl tE23_d tS64_d rfl (by first | omega) ?_
      refine WL.fieldAddr rfl tF64_0_d rfl ?_
      refine WL.load_imm rfl tA3_d rfl (by first | exact hrow _ _ rfl) ?_
      refine WL.assign rfl rfl ?_
      refine WL.nil ?_
      refine WE.then_normal ?_
      refine WC.ret ?_
      refine WE.then_ret ?_
      refine WE.retV [4] rfl rfl rfl ?_
      first | (simp [tupleOf, endI, hf1]; done) | (simp [tupleOf, endI, List.getElem?_eq_none (show c.fns.length ≤ (fn + 1).toNat by omega)])
    )
  · try simp only [decide_eq_true_eq, decide_eq_false_iff_not, beq_iff_eq, bne_iff_ne, ne_eq, beq_eq_false_iff_ne, bne_eq_false_iff_eq, Bool.not_eq_true', Bool.not_eq_false', gt_iff_lt, ge_iff_le] at h2
    all_goals (
      refine WC.skip ?_
      refine WE.then_normal ?_
      refine WC.seq ?_
      refine WC.region ?_
      refine WL.fieldAddr rfl tF26_2_d rfl ?_
      refine WL.load_own 0 rfl rfl tA24_d rfl rfl ?_
      refine WL.len_slice rfl tE24_d rfl ?_
      refine WL.assign rfl rfl ?_
      refine WL.nil ?_
      refine WE.then_normal ?_
      refine WC.ret ?_
      refine WE.retV [4] rfl rfl rfl ?_
      first | (simp [tupleOf, endI, hf1]; done) | (simp [tupleOf, endI, List.getElem?_eq_none (show c.fns.length ≤ (fn + 1).toNat by omega)])
    )
theorem cmp_spec (x : FnD) (t : Int) (I : Mem) (vs : List Value) (hx : FnR I x vs) (h0 : 0 ≤ x.begin_ ∧ x.begin_ ≤ 65536) (h1 : 0 ≤ t ∧ t ≤ 65537) : SpecV Tryd.prog 78 ([] ++ [.agg vs.toArray, .int .i64 t] ++ []) I (.int .i64 (x.begin_ - t)) := by
  obtain ⟨rfl, hr1, hr2, hr3⟩ := hx
  refine SpecV.intro Tryd.func78 rfl rfl fun w0 => ?_
  show WC _ _ _ _ [] [(0, _), (1, _)] _ _ _
  refine WC.seq ?_
  refine WC.region ?_
  refine WL.box rfl rfl rfl (fun b1 => ?_)
  refine WL.assign rfl rfl ?_
  refine WL.nil ?_
  refine WE.then_normal ?_
  refine WC.seq ?_
  refine WC.region ?_
  refine WL.fieldAddr rfl tF64_0_d rfl ?_
  refine WL.load_own 0 rfl rfl tA3_d rfl rfl ?_
  refine WL.move rfl rfl ?_
  first | refine WL.sub rfl rfl (by omega) rfl ?_ | refine WL.arith rfl rfl rfl rfl ?_
  refine WL.assign rfl rfl ?_
  refine WL.nil ?_
  refine WE.then_normal ?_
  refine WC.ret ?_
  refine WE.retV [4] rfl rfl rfl ?_
  rfl
theorem bsearch_spec (fns : List FnD) (t : Int) (I : Mem) (v : Value) {f : FuncId} {fn : Func} (hok : okFn Tryd.prog f fn) (hv : SlV FnR 3 I fns v) (hsort : sortedF fns) (hlen : fns.length ≤ 65536)
    (hp : ∀ x vs, FnR I x vs → x ∈ fns → SpecV Tryd.prog f ([] ++ [.agg vs.toArray, .int .i64 t] ++ []) I (.int .i64 (x.begin_ - t))) :
    SpecV Tryd.prog 77 [v, .int .i64 t, .func (.func f) [].toArray [].toArray] I (.tuple [.int .i64 (cntLt fns t), .bool (match fns[cntLt fns t]? with | some x => x.begin_ - t == 0 | none => false)].toArray) := by
  obtain ⟨A, cap, rfl, hm, hcap, hS⟩ := hv
  refine SpecV.intro Tryd.func77 rfl rfl fun w0 => ?_
  show WC _ _ _ _ [] [(0, _), (1, _), (2, _)] _ _ _
  refine WC.seq ?_
  refine WC.region ?_
  refine WL.assign rfl rfl ?_
  refine WL.assign rfl rfl ?_
  refine WL.nil ?_
  refine WE.then_normal ?_
  refine WC.seq ?_
  refine WC.region ?_
  refine WL.move rfl rfl ?_
  refine WL.len_slice rfl tE23_d rfl ?_
  refine WL.assign rfl rfl ?_
  refine WL.nil ?_
  refine WE.then_normal ?_
  refine WC.seq ?_
  refine WC.region ?_
  refine WL.move rfl rfl ?_
  refine WL.assign rfl rfl ?_
  refine WL.assign rfl rfl ?_
  refine WL.nil ?_
  refine WE.then_normal ?_
  refine WC.seq ?_
  refine WC.block ?_
  refine WC.loopV (X := Nat × Nat) [0, 1, 2, 6, 7, 8, 35, 36, 37, 38, 39, 40, 41, 42, 43, 44, 45, 46, 47, 48] rfl (fun x => [(9, .int .i64 (x.1 : Int)), (10, .int .i64 (x.2 : Int))]) (fun x => x.1 ≤ x.2 ∧ x.2 ≤ fns.length ∧ (∀ k y, k < x.1 → fns[k]? = some y → y.begin_ < t) ∧ (∀ k y, x.2 ≤ k → fns[k]? = some y → t ≤ y.begin_)) (fun x => x.2 - x.1) (0, fns.length) (⟨Nat.zero_le _, Nat.le_refl _, fun k y h => absurd h (Nat.not_lt_zero _), fun k y h hy => by have := (List.getElem?_eq_some_iff.1 hy).1; simp only at h; omega⟩) ⟨rfl, rfl, trivial⟩ (fun x hinv => ?_)
  obtain ⟨i, j⟩ := x
  obtain ⟨hij, hj, hlo, hhi⟩ := hinv
  simp only at hij hj hlo hhi
  dsimp only
  refine WC.seq ?_
  refine WC.seq ?_
  refine WC.region ?_
  refine WL.move rfl rfl ?_
  refine WL.move rfl rfl ?_
  refine WL.arith rfl rfl rfl rfl ?_
  refine WL.nil ?_
  refine WE.then_normal ?_
  refine WC.condT rfl (fun h1 => ?_) (fun h1 => ?_)
  · try simp only [decide_eq_true_eq, decide_eq_false_iff_not, beq_iff_eq, bne_iff_ne, ne_eq, beq_eq_false_iff_ne, bne_eq_false_iff_eq, Bool.not_eq_true', Bool.not_eq_false', gt_iff_lt, ge_iff_le] at h1
    all_goals (
      refine WC.skip ?_
      refine WE.then_normal ?_
      refine WC.block ?_
      refine WC.seq ?_
      refine WC.region ?_
      refine WL.move rfl rfl ?_
      refine WL.move rfl rfl ?_
      first | refine WL.add rfl rfl (by omega) rfl ?_ | refine WL.arith rfl rfl rfl rfl ?_
      first | refine WL.convert_in rfl tI3_d tI130_d rfl (IntWalk.u64_in _ (by omega)) ?_ | refine WL.convert_int rfl tI3_d tI130_d rfl ?_
      refine WL.shr_one rfl rfl rfl (by omega) ?_
      first | refine WL.convert_in rfl tI130_d tI3_d rfl (IntWalk.i64_in _ (by omega)) ?_ | refine WL.convert_int rfl tI130_d tI3_d rfl ?_
      refine WL.assign rfl rfl ?_
      refine WL.nil ?_
      refine WE.then_normal ?_
      refine WC.seq ?_
      refine WC.region ?_
      obtain ⟨h, hh⟩ : ∃ h : Nat, ((i : Int) + (j : Int)) / 2 = h := ⟨(i + j) / 2, by omega⟩
      rw [hh]
      obtain ⟨x, hxk⟩ : ∃ x, fns[h]? = some x := ⟨_, List.getElem?_eq_getElem (by omega)⟩
      obtain ⟨b, off, us, rfl, hul, hrow, hR⟩ := hS h x hxk
      refine WL.move rfl rfl ?_
      refine WL.move rfl rfl ?_
      refine WL.move rfl rfl ?_
      refine WL.indexAddr rfl rfl tE23_d tS64_d rfl (by first | omega) ?_
      refine WL.load_imm_agg rfl tA64_d tS64_d rfl (by first | exact hrow) (by first | rfl | assumption) ?_
      refine WL.move rfl rfl ?_
      refine WL.callVal hok rfl rfl rfl (hp x us hR (List.mem_of_getElem? hxk)) ?_
      refine WL.arith rfl rfl rfl rfl ?_
      refine WL.nil ?_
      refine WE.then_normal ?_
      refine WC.condT rfl (fun h2 => ?_) (fun h2 => ?_)
      · try simp only [decide_eq_true_eq, decide_eq_false_iff_not, beq_iff_eq, bne_iff_ne, ne_eq, beq_eq_false_iff_ne, bne_eq_false_iff_eq, Bool.not_eq_true', Bool.not_eq_false', gt_iff_lt, ge_iff_le] at h2
        all_goals (
          refine WC.region ?_
          refine WL.move rfl rfl ?_
          first | refine WL.add rfl rfl (by omega) rfl ?_ | refine WL.arith rfl rfl rfl rfl ?_
          refine WL.assign rfl rfl ?_
          refine WL.nil ?_
          refine WE.block_normal ?_
          refine WE.backV (if x.begin_ - t < 0 then (h + 1, j) else (i, h)) (by
            first
              | (rw [if_pos (by assumption)]; refine ⟨by simp only; omega, hj, fun k y hk hy => ?_, hhi⟩
                 simp only at hk; rcases Nat.lt_succ_iff_lt_or_eq.1 hk with e | e
                 · have := hsort k h y x e hy hxk; omega
                 · subst e; rw [hxk] at hy; injection hy with hy; subst hy; omega)
              | (rw [if_neg (by omega)]; refine ⟨by simp only; omega, by simp only; omega, hlo, fun k y hk hy => ?_⟩
                 simp only at hk; rcases Nat.lt_or_eq_of_le hk with e | e
                 · have := hsort h k x y e hxk hy; omega
                 · subst e; rw [hxk] at hy; injection hy with hy; subst hy; omega)) (by first | (rw [if_pos (by assumption)]; simp only; omega) | (rw [if_neg (by omega)]; simp only; omega)) (by first | (rw [if_pos (by assumption)]; exact ⟨rfl, rfl, trivial⟩) | (rw [if_neg (by omega)]; exact ⟨rfl, rfl, trivial⟩)) (by repeat (first | exact trivial | refine ⟨rfl, ?_⟩))
        )
      · try simp only [decide_eq_true_eq, decide_eq_false_iff_not, beq_iff_eq, bne_iff_ne, ne_eq, beq_eq_false_iff_ne, bne_eq_false_iff_eq, Bool.not_eq_true', Bool.not_eq_false', gt_iff_lt, ge_iff_le] at h2
        all_goals (
          refine WC.region ?_
          refine WL.move rfl rfl ?_
          refine WL.assign rfl rfl ?_
          refine WL.nil ?_
          refine WE.block_normal ?_
          refine WE.backV (if x.begin_ - t < 0 then (h + 1, j) else (i, h)) (by
            first
              | (rw [if_pos (by assumption)]; refine ⟨by simp only; omega, hj, fun k y hk hy => ?_, hhi⟩
                 simp only at hk; rcases Nat.lt_succ_iff_lt_or_eq.1 hk with e | e
                 · have := hsort k h y x e hy hxk; omega
                 · subst e; rw [hxk] at hy; injection hy with hy; subst hy; omega)
              | (rw [if_neg (by omega)]; refine ⟨by simp only; omega, by simp only; omega, hlo, fun k y hk hy => ?_⟩
                 simp only at hk; rcases Nat.lt_or_eq_of_le hk with e | e
                 · have := hsort h k x y e hxk hy; omega
                 · subst e; rw [hxk] at hy; injection hy with hy; subst hy; omega)) (by first | (rw [if_pos (by assumption)]; simp only; omega) | (rw [if_neg (by omega)]; simp only; omega)) (by first | (rw [if_pos (by assumption)]; exact ⟨rfl, rfl, trivial⟩) | (rw [if_neg (by omega)]; exact ⟨rfl, rfl, trivial⟩)) (by repeat (first | exact trivial | refine ⟨rfl, ?_⟩))
        )
    )
  · try simp only [decide_eq_true_eq, decide_eq_false_iff_not, beq_iff_eq, bne_iff_ne, ne_eq, beq_eq_false_iff_ne, bne_eq_false_iff_eq, Bool.not_eq_true', Bool.not_eq_false', gt_iff_lt, ge_iff_le] at h1
    all_goals (
      refine WC.exit ?_
      refine WE.then_exit ?_
      refine WE.then_exit ?_
      refine WE.block_exit ?_
      refine WE.then_normal ?_
      refine WC.seq ?_
      refine WC.region ?_
      obtain rfl : j = i := by omega
      have hcnt := cntLt_at hj hlo hhi
      refine WL.move rfl rfl ?_
      refine WL.move rfl rfl ?_
      refine WL.move rfl rfl ?_
      refine WL.arith rfl rfl rfl rfl ?_
      refine WL.move rfl rfl ?_
      refine WL.split 39 rfl (fun h3 => ?_) (fun h3 => ?_)
      · try simp only [decide_eq_true_eq, decide_eq_false_iff_not, beq_iff_eq, bne_iff_ne, ne_eq, beq_eq_false_iff_ne, bne_eq_false_iff_eq, Bool.not_eq_true', Bool.not_eq_false', gt_iff_lt, ge_iff_le] at h3
        all_goals (
          refine WL.guard_yes rfl rfl ?_
          obtain ⟨x, hxk⟩ : ∃ x, fns[j]? = some x := ⟨_, List.getElem?_eq_getElem (by omega)⟩
          obtain ⟨b, off, us, rfl, hul, hrow, hR⟩ := hS j x hxk
          refine WL.move rfl rfl ?_
          refine WL.guard_yes rfl rfl ?_
          refine WL.move rfl rfl ?_
          refine WL.guard_yes rfl rfl ?_
          refine WL.move rfl rfl ?_
          refine WL.guard_yes rfl rfl ?_
          refine WL.indexAddr rfl rfl tE23_d tS64_d rfl (by first | omega) ?_
          refine WL.guard_yes rfl rfl ?_
          refine WL.load_imm_agg rfl tA64_d tS64_d rfl (by first | exact hrow) (by first | rfl | assumption) ?_
          refine WL.guard_yes rfl rfl ?_
          refine WL.move rfl rfl ?_
          refine WL.guard_yes rfl rfl ?_
          refine WL.callVal hok rfl rfl rfl (hp x us hR (List.mem_of_getElem? hxk)) ?_
          refine WL.guard_yes rfl rfl ?_
          refine WL.arith rfl rfl rfl rfl ?_
          refine WL.pick_true rfl rfl rfl ?_
          refine WL.assign rfl rfl ?_
          refine WL.assign rfl rfl ?_
          refine WL.nil ?_
          refine WE.then_normal ?_
          refine WC.ret ?_
          refine WE.retV [6, 7] rfl rfl rfl ?_
          first | (rw [hcnt, hxk]; rfl) | (rw [hcnt, List.getElem?_eq_none (by omega)]; rfl)
        )
      · try simp only [decide_eq_true_eq, decide_eq_false_iff_not, beq_iff_eq, bne_iff_ne, ne_eq, beq_eq_false_iff_ne, bne_eq_false_iff_eq, Bool.not_eq_true', Bool.not_eq_false', gt_iff_lt, ge_iff_le] at h3
        all_goals (
          refine WL.guard_no rfl rfl rfl rfl ?_
          refine WL.guard_no rfl rfl rfl rfl ?_
          refine WL.guard_no rfl rfl rfl rfl ?_
          refine WL.guard_no rfl rfl rfl rfl ?_
          refine WL.guard_no rfl rfl rfl rfl ?_
          refine WL.guard_no rfl rfl rfl rfl ?_
          refine WL.guard_no rfl rfl rfl rfl ?_
          refine WL.guard_no rfl rfl rfl rfl ?_
          refine WL.pick_false rfl rfl rfl ?_
          refine WL.assign rfl rfl ?_
          refine WL.assign rfl rfl ?_
          refine WL.nil ?_
          refine WE.then_normal ?_
          refine WC.ret ?_
          refine WE.retV [6, 7] rfl rfl rfl ?_
          first | (rw [hcnt, hxk]; rfl) | (rw [hcnt, List.getElem?_eq_none (by omega)]; rfl)
        )
    )
theorem of_spec (c : CodeD) (at_ : Int) (I : Mem) (v1 v2 v3 : Value) (hc : CodeC I c v1 v2 v3) (h0 : 0 ≤ at_ ∧ at_ ≤ 65536) (hsort : sortedF c.fns) (hbeg : ∀ f, f ∈ c.fns → 0 ≤ f.begin_ ∧ f.begin_ ≤ 65536) (hlen : c.fns.length ≤ 65536) : SpecV Tryd.prog 55 [.agg [v1, v2, v3, .int .i64 c.main].toArray, .int .i64 at_] I (.int .i64 (ofI c at_)) := by
  obtain ⟨hs1, hs2, hs3, hmain⟩ := hc
  obtain ⟨A1, k1, rfl, hm1, hc1, hS1⟩ := hs1
  obtain ⟨A2, k2, rfl, hm2, hc2, hS2⟩ := hs2
  obtain ⟨A3, k3, rfl, hm3, hc3, hS3⟩ := hs3
  unfold Rg at hmain
  have hc : CodeC I c (.slice A1 c.shapes.length k1) (.slice A2 c.fns.length k2) (.slice A3 c.list.length k3) := ⟨⟨A1, k1, rfl, hm1, hc1, hS1⟩, ⟨A2, k2, rfl, hm2, hc2, hS2⟩, ⟨A3, k3, rfl, hm3, hc3, hS3⟩, hmain⟩
  refine SpecV.intro Tryd.func55 rfl rfl fun w0 => ?_
  show WC _ _ _ _ [] [(0, _), (1, _)] _ _ _
  refine WC.seq ?_
  refine WC.region ?_
  refine WL.box rfl rfl rfl (fun b1 => ?_)
  refine WL.assign rfl rfl ?_
  refine WL.nil ?_
  refine WE.then_normal ?_
  refine WC.seq ?_
  refine WC.region ?_
  refine WL.fieldAddr rfl tF26_1_d rfl ?_
  refine WL.load_own 0 rfl rfl tA23_d rfl rfl ?_
  refine WL.move rfl rfl ?_
  first | refine WL.add rfl rfl (by omega) rfl ?_ | refine WL.arith rfl rfl rfl rfl ?_
  refine WL.callV okF77_d rfl rfl (bsearch_spec c.fns (at_ + 1) I _ okF78_d hc.s2 hsort hlen (fun x vs hx hm => cmp_spec x (at_ + 1) I vs hx (hbeg x hm) (by omega))) ?_
  refine WL.move rfl rfl ?_
  refine WL.extract rfl rfl rfl ?_
  refine WL.extract rfl rfl rfl ?_
  refine WL.assign rfl rfl ?_
  refine WL.assign rfl rfl ?_
  refine WL.nil ?_
  refine WE.then_normal ?_
  refine WC.seq ?_
  refine WC.region ?_
  have hcl := cntLt_le c.fns (at_ + 1)
  refine WL.move rfl rfl ?_
  first | refine WL.sub rfl rfl (by omega) rfl ?_ | refine WL.arith rfl rfl rfl rfl ?_
  refine WL.assign rfl rfl ?_
  refine WL.nil ?_
  refine WE.then_normal ?_
  refine WC.ret ?_
  refine WE.retV [4] rfl rfl rfl ?_
  rfl
theorem within_spec (c : CodeD) (fn : Int) (i : InstrD) (I : Mem) (v1 v2 v3 : Value) (vs : List Value) (hc : CodeC I c v1 v2 v3) (hi : InstrR I i vs) (f0 : FnD) (hfn : 0 ≤ fn) (hf0 : c.fns[fn.toNat]? = some f0) (hw : 0 ≤ f0.words) (hl : c.list.length ≤ 65536) (hfl : c.fns.length ≤ 32) (hend : 0 ≤ endI c fn ∧ endI c fn ≤ 65536) : SpecV Tryd.prog 54 [.agg [v1, v2, v3, .int .i64 c.main].toArray, .int .i64 fn, .agg vs.toArray] I (.bool (withinI c fn i)) := by
  obtain ⟨hs1, hs2, hs3, hmain⟩ := hc
  obtain ⟨A1, k1, rfl, hm1, hc1, hS1⟩ := hs1
  obtain ⟨A2, k2, rfl, hm2, hc2, hS2⟩ := hs2
  obtain ⟨A3, k3, rfl, hm3, hc3, hS3⟩ := hs3
  unfold Rg at hmain
  have hc : CodeC I c (.slice A1 c.shapes.length k1) (.slice A2 c.fns.length k2) (.slice A3 c.list.length k3) := ⟨⟨A1, k1, rfl, hm1, hc1, hS1⟩, ⟨A2, k2, rfl, hm2, hc2, hS2⟩, ⟨A3, k3, rfl, hm3, hc3, hS3⟩, hmain⟩
  have hi0 := hi
  obtain ⟨rfl, hop, hr, ha, hb, hn⟩ := hi
  obtain ⟨bf, of_, uf, rfl, hulf, hrowf, rfl, hf1, hf2, hf3⟩ := hS2 _ f0 hf0
  have hfl2 := (List.getElem?_eq_some_iff.1 hf0).1
  unfold Rg at hf1 hf2 hf3
  have hfa : fnAt c fn = some f0 := by rw [fnAt, if_neg (by omega)]; exact hf0
  refine SpecV.intro Tryd.func54 rfl rfl fun w0 => ?_
  show WC _ _ _ _ [] [(0, _), (1, _), (2, _)] _ _ _
  refine WC.seq ?_
  refine WC.region ?_
  refine WL.box rfl rfl rfl (fun b1 => ?_)
  refine WL.box rfl rfl rfl (fun b2 => ?_)
  refine WL.assign rfl rfl ?_
  refine WL.nil ?_
  refine WE.then_normal ?_
  refine WC.seq ?_
  refine WC.region ?_
  refine WL.freeze' (fun I1 hI1 hb1 => ?_)
  have hrowI := Mem.row_of hb1
  have hi1 : InstrR I1 i _ := InstrR_mono I I1 i _ hI1 hi0
  have hrowf1 := Mem.le.row hI1 hrowf
  have hcI := hc.mono hI1
  refine WL.makeFunc rfl rfl rfl ?_
  refine WL.assign rfl rfl ?_
  refine WL.nil ?_
  refine WE.then_normal ?_
  refine WC.seq ?_
  refine WC.seq ?_
  refine WC.region ?_
  refine WL.fieldAddr rfl tF75_0_d rfl ?_
  refine WL.load_imm rfl tA73_d rfl (by first | exact hrowI _ _ rfl | exact hrowf1 _ _ rfl) ?_
  refine WL.nil ?_
  refine WE.then_normal ?_
  refine WC.block ?_
  refine WC.seq ?_
  refine WC.region ?_
  refine WL.arith rfl rfl rfl rfl ?_
  refine WL.assign rfl rfl ?_
  refine WL.nil ?_
  refine WE.then_normal ?_
  refine WC.condT rfl (fun h3 => ?_) (fun h3 => ?_)
  · try simp at h3
    all_goals (
      refine WC.seq ?_
      refine WC.region ?_
      refine WL.move rfl rfl ?_
      refine WL.fieldAddr rfl tF26_1_d rfl ?_
      refine WL.load_own 0 rfl rfl tA23_d rfl rfl ?_
      refine WL.move rfl rfl ?_
      refine WL.indexAddr rfl rfl tE23_d tS64_d rfl (by first | omega) ?_
      refine WL.fieldAddr rfl tF64_1_d rfl ?_
      refine WL.load_imm rfl tA3_d rfl (by first | exact hrowI _ _ rfl | exact hrowf1 _ _ rfl) ?_
      first | refine WL.sub rfl rfl (by omega) rfl ?_ | refine WL.arith rfl rfl rfl rfl ?_
      refine WL.callVal okF76_d rfl rfl rfl (btw_spec _ _ i I1 _ 0 _ hi1 hrowI (by unfold Rg; omega) (by unfold Rg; omega)) ?_
      refine WL.assign rfl rfl ?_
      refine WL.nil ?_
      refine WE.then_normal ?_
      refine WC.ret ?_
      refine WE.block_ret ?_
      refine WE.then_ret ?_
      refine WE.retV [6] rfl rfl rfl ?_
      first | (simp [tupleOf, withinI, hfa, *]; done)
    )
  · try simp at h3
    all_goals (
      refine WC.seq ?_
      refine WC.seq ?_
      refine WC.region ?_
      refine WL.arith rfl rfl rfl rfl ?_
      refine WL.assign rfl rfl ?_
      refine WL.nil ?_
      refine WE.then_normal ?_
      refine WC.condT rfl (fun h4 => ?_) (fun h4 => ?_)
      · try simp at h4
        all_goals (
          refine WC.skip ?_
          refine WE.then_normal ?_
          refine WC.cond_true rfl ?_
          refine WC.seq ?_
          refine WC.region ?_
          refine WL.move rfl rfl ?_
          refine WL.callVal okF76_d rfl rfl rfl (btw_spec _ _ i I1 _ 0 _ hi1 hrowI (by unfold Rg; omega) (by unfold Rg; omega)) ?_
          refine WL.assign rfl rfl ?_
          refine WL.nil ?_
          refine WE.then_normal ?_
          refine WC.ret ?_
          refine WE.block_ret ?_
          refine WE.then_ret ?_
          refine WE.retV [6] rfl rfl rfl ?_
          first | (simp [tupleOf, withinI, hfa, *]; done)
        )
      · try simp at h4
        all_goals (
          refine WC.seq ?_
          refine WC.region ?_
          refine WL.arith rfl rfl rfl rfl ?_
          refine WL.assign rfl rfl ?_
          refine WL.nil ?_
          refine WE.then_normal ?_
          refine WC.condT rfl (fun h5 => ?_) (fun h5 => ?_)
          · try simp at h5
            all_goals (
              refine WC.skip ?_
              refine WE.then_normal ?_
              refine WC.cond_true rfl ?_
              refine WC.seq ?_
              refine WC.region ?_
              refine WL.move rfl rfl ?_
              refine WL.callVal okF76_d rfl rfl rfl (btw_spec _ _ i I1 _ 0 _ hi1 hrowI (by unfold Rg; omega) (by unfold Rg; omega)) ?_
              refine WL.assign rfl rfl ?_
              refine WL.nil ?_
              refine WE.then_normal ?_
              refine WC.ret ?_
              refine WE.block_ret ?_
              refine WE.then_ret ?_
              refine WE.retV [6] rfl rfl rfl ?_
              first | (simp [tupleOf, withinI, hfa, *]; done)
            )
          · try simp at h5
            all_goals (
              refine WC.region ?_
              refine WL.arith rfl rfl rfl rfl ?_
              refine WL.assign rfl rfl ?_
              refine WL.nil ?_
              refine WE.then_normal ?_
              refine WC.condT rfl (fun h6 => ?_) (fun h6 => ?_)
              · try simp at h6
                all_goals (
                  refine WC.seq ?_
                  refine WC.region ?_
                  refine WL.move rfl rfl ?_
                  refine WL.callVal okF76_d rfl rfl rfl (btw_spec _ _ i I1 _ 0 _ hi1 hrowI (by unfold Rg; omega) (by unfold Rg; omega)) ?_
                  refine WL.assign rfl rfl ?_
                  refine WL.nil ?_
                  refine WE.then_normal ?_
                  refine WC.ret ?_
                  refine WE.block_ret ?_
                  refine WE.then_ret ?_
                  refine WE.retV [6] rfl rfl rfl ?_
                  first | (simp [tupleOf, withinI, hfa, *]; done)
                )
              · try simp at h6
                all_goals (
                  refine WC.seq ?_
                  refine WC.region ?_
                  refine WL.arith rfl rfl rfl rfl ?_
                  refine WL.assign rfl rfl ?_
                  refine WL.nil ?_
                  refine WE.then_normal ?_
                  refine WC.condT rfl (fun h7 => ?_) (fun h7 => ?_)
                  · try simp at h7
                    all_goals (
                      refine WC.seq ?_
                      refine WC.region ?_
                      refine WL.move rfl rfl ?_
                      refine WL.callVal okF76_d rfl rfl rfl (btw_spec _ _ i I1 _ 0 _ hi1 hrowI (by unfold Rg; omega) (by unfold Rg; omega)) ?_
                      refine WL.assign rfl rfl ?_
                      refine WL.nil ?_
                      refine WE.then_normal ?_
                      refine WC.ret ?_
                      refine WE.block_ret ?_
                      refine WE.then_ret ?_
                      refine WE.retV [6] rfl rfl rfl ?_
                      first | (simp [tupleOf, withinI, hfa, *]; done)
                    )
                  · try simp at h7
                    all_goals (
                      refine WC.seq ?_
                      refine WC.seq ?_
                      refine WC.region ?_
                      refine WL.arith rfl rfl rfl rfl ?_
                      refine WL.assign rfl rfl ?_
                      refine WL.nil ?_
                      refine WE.then_normal ?_
                      refine WC.condT rfl (fun h8 => ?_) (fun h8 => ?_)
                      · try simp at h8
                        all_goals (
                          refine WC.skip ?_
                          refine WE.then_normal ?_
                          refine WC.cond_true rfl ?_
                          refine WC.seq ?_
                          refine WC.region ?_
                          refine WL.move rfl rfl ?_
                          refine WL.fieldAddr rfl tF26_0_d rfl ?_
                          refine WL.load_own 0 rfl rfl tA22_d rfl rfl ?_
                          refine WL.len_slice rfl tE22_d rfl ?_
                          first | refine WL.sub rfl rfl (by omega) rfl ?_ | refine WL.arith rfl rfl rfl rfl ?_
                          refine WL.callVal okF76_d rfl rfl rfl (btw_spec _ _ i I1 _ 0 _ hi1 hrowI (by unfold Rg; omega) (by unfold Rg; omega)) ?_
                          refine WL.assign rfl rfl ?_
                          refine WL.nil ?_
                          refine WE.then_normal ?_
                          refine WC.ret ?_
                          refine WE.block_ret ?_
                          refine WE.then_ret ?_
                          refine WE.retV [6] rfl rfl rfl ?_
                          first | (simp [tupleOf, withinI, hfa, *]; done)
                        )
                      · try simp at h8
                        all_goals (
                          refine WC.region ?_
                          refine WL.arith rfl rfl rfl rfl ?_
                          refine WL.assign rfl rfl ?_
                          refine WL.nil ?_
                          refine WE.then_normal ?_
                          refine WC.condT rfl (fun h9 => ?_) (fun h9 => ?_)
                          · try simp at h9
                            all_goals (
                              refine WC.seq ?_
                              refine WC.region ?_
                              refine WL.move rfl rfl ?_
                              refine WL.fieldAddr rfl tF26_0_d rfl ?_
                              refine WL.load_own 0 rfl rfl tA22_d rfl rfl ?_
                              refine WL.len_slice rfl tE22_d rfl ?_
                              first | refine WL.sub rfl rfl (by omega) rfl ?_ | refine WL.arith rfl rfl rfl rfl ?_
                              refine WL.callVal okF76_d rfl rfl rfl (btw_spec _ _ i I1 _ 0 _ hi1 hrowI (by unfold Rg; omega) (by unfold Rg; omega)) ?_
                              refine WL.assign rfl rfl ?_
                              refine WL.nil ?_
                              refine WE.then_normal ?_
                              refine WC.ret ?_
                              refine WE.block_ret ?_
                              refine WE.then_ret ?_
                              refine WE.retV [6] rfl rfl rfl ?_
                              first | (simp [tupleOf, withinI, hfa, *]; done)
                            )
                          · try simp at h9
                            all_goals (
                              refine WC.seq ?_
                              refine WC.region ?_
                              refine WL.arith rfl rfl rfl rfl ?_
                              refine WL.assign rfl rfl ?_
                              refine WL.nil ?_
                              refine WE.then_normal ?_
                              refine WC.condT rfl (fun h10 => ?_) (fun h10 => ?_)
                              · try simp at h10
                                all_goals (
                                  refine WC.seq ?_
                                  refine WC.region ?_
                                  refine WL.move rfl rfl ?_
                                  refine WL.callVal okF76_d rfl rfl rfl (btw_spec _ _ i I1 _ 0 _ hi1 hrowI (by unfold Rg; omega) (by unfold Rg; omega)) ?_
                                  refine WL.assign rfl rfl ?_
                                  refine WL.nil ?_
                                  refine WE.then_normal ?_
                                  refine WC.ret ?_
                                  refine WE.block_ret ?_
                                  refine WE.then_ret ?_
                                  refine WE.retV [6] rfl rfl rfl ?_
                                  first | (simp [tupleOf, withinI, hfa, *]; done)
                                )
                              · try simp at h10
                                all_goals (
                                  refine WC.seq ?_
                                  refine WC.seq ?_
                                  refine WC.region ?_
                                  refine WL.arith rfl rfl rfl rfl ?_
                                  refine WL.assign rfl rfl ?_
                                  refine WL.nil ?_
                                  refine WE.then_normal ?_
                                  refine WC.condT rfl (fun h11 => ?_) (fun h11 => ?_)
                                  · try simp at h11
                                    all_goals (
                                      refine WC.skip ?_
                                      refine WE.then_normal ?_
                                      refine WC.cond_true rfl ?_
                                      refine WC.seq ?_
                                      refine WC.region_draw tMixed_d (by kernel_rfl) ?_
                                      refine WL.move rfl rfl ?_
                                      refine WL.fieldAddr rfl tF26_1_d rfl ?_
                                      refine WL.load_own 0 rfl rfl tA23_d rfl rfl ?_
                                      refine WL.move rfl rfl ?_
                                      refine WL.indexAddr rfl rfl tE23_d tS64_d rfl (by first | omega) ?_
                                      refine WL.fieldAddr rfl tF64_0_d rfl ?_
                                      refine WL.load_imm rfl tA3_d rfl (by first | exact hrowI _ _ rfl | exact hrowf1 _ _ rfl) ?_
                                      refine WL.load_own_agg 0 rfl rfl tA26_d tS26_d rfl rfl ?_
                                      refine WL.move rfl rfl ?_
                                      refine WL.callV okF58_d rfl rfl (end_spec c fn I1 _ _ _ hcI (by omega) (by omega)) ?_
                                      first | refine WL.sub rfl rfl (by omega) rfl ?_ | refine WL.arith rfl rfl rfl rfl ?_
                                      refine WL.callVal okF76_d rfl rfl rfl (btw_spec _ _ i I1 _ 0 _ hi1 hrowI (by unfold Rg; omega) (by unfold Rg; omega)) ?_
                                      refine WL.assign rfl rfl ?_
                                      refine WL.nil ?_
                                      refine WE.then_normal ?_
                                      refine WC.ret ?_
                                      refine WE.block_ret ?_
                                      refine WE.then_ret ?_
                                      refine WE.retV [6] rfl rfl rfl ?_
                                      first | (simp [tupleOf, withinI, hfa, *]; done)
                                    )
                                  · try simp at h11
                                    all_goals (
                                      refine WC.region ?_
                                      refine WL.arith rfl rfl rfl rfl ?_
                                      refine WL.assign rfl rfl ?_
                                      refine WL.nil ?_
                                      refine WE.then_normal ?_
                                      refine WC.condT rfl (fun h12 => ?_) (fun h12 => ?_)
                                      · try simp at h12
                                        all_goals (
                                          refine WC.seq ?_
                                          refine WC.region_draw tMixed_d (by kernel_rfl) ?_
                                          refine WL.move rfl rfl ?_
                                          refine WL.fieldAddr rfl tF26_1_d rfl ?_
                                          refine WL.load_own 0 rfl rfl tA23_d rfl rfl ?_
                                          refine WL.move rfl rfl ?_
                                          refine WL.indexAddr rfl rfl tE23_d tS64_d rfl (by first | omega) ?_
                                          refine WL.fieldAddr rfl tF64_0_d rfl ?_
                                          refine WL.load_imm rfl tA3_d rfl (by first | exact hrowI _ _ rfl | exact hrowf1 _ _ rfl) ?_
                                          refine WL.load_own_agg 0 rfl rfl tA26_d tS26_d rfl rfl ?_
                                          refine WL.move rfl rfl ?_
                                          refine WL.callV okF58_d rfl rfl (end_spec c fn I1 _ _ _ hcI (by omega) (by omega)) ?_
                                          first | refine WL.sub rfl rfl (by omega) rfl ?_ | refine WL.arith rfl rfl rfl rfl ?_
                                          refine WL.callVal okF76_d rfl rfl rfl (btw_spec _ _ i I1 _ 0 _ hi1 hrowI (by unfold Rg; omega) (by unfold Rg; omega)) ?_
                                          refine WL.assign rfl rfl ?_
                                          refine WL.nil ?_
                                          refine WE.then_normal ?_
                                          refine WC.ret ?_
                                          refine WE.block_ret ?_
                                          refine WE.then_ret ?_
                                          refine WE.retV [6] rfl rfl rfl ?_
                                          first | (simp [tupleOf, withinI, hfa, *]; done)
                                        )
                                      · try simp at h12
                                        all_goals (
                                          refine WC.seq ?_
                                          refine WC.region ?_
                                          refine WL.arith rfl rfl rfl rfl ?_
                                          refine WL.assign rfl rfl ?_
                                          refine WL.nil ?_
                                          refine WE.then_normal ?_
                                          refine WC.condT rfl (fun h13 => ?_) (fun h13 => ?_)
                                          · try simp at h13
                                            all_goals (
                                              refine WC.seq ?_
                                              refine WC.region ?_
                                              refine WL.move rfl rfl ?_
                                              refine WL.fieldAddr rfl tF26_1_d rfl ?_
                                              refine WL.load_own 0 rfl rfl tA23_d rfl rfl ?_
                                              refine WL.len_slice rfl tE23_d rfl ?_
                                              first | refine WL.sub rfl rfl (by omega) rfl ?_ | refine WL.arith rfl rfl rfl rfl ?_
                                              refine WL.callVal okF76_d rfl rfl rfl (btw_spec _ _ i I1 _ 0 _ hi1 hrowI (by unfold Rg; omega) (by unfold Rg; omega)) ?_
                                              refine WL.assign rfl rfl ?_
                                              refine WL.nil ?_
                                              refine WE.then_normal ?_
                                              refine WC.ret ?_
                                              refine WE.block_ret ?_
                                              refine WE.then_ret ?_
                                              refine WE.retV [6] rfl rfl rfl ?_
                                              first | (simp [tupleOf, withinI, hfa, *]; done)
                                            )
                                          · try simp at h13
                                            all_goals (
                                              refine WC.skip ?_
                                              refine WE.block_normal ?_
                                              refine WE.then_normal ?_
                                              refine WC.seq ?_
                                              refine WC.region ?_
                                              refine WL.assign rfl rfl ?_
                                              refine WL.nil ?_
                                              refine WE.then_normal ?_
                                              refine WC.ret ?_
                                              refine WE.retV [6] rfl rfl rfl ?_
                                              first | (simp [tupleOf, withinI, hfa, *]; done)
                                            )
                                        )
                                    )
                                )
                            )
                        )
                    )
                )
            )
        )
    )
end Go.Proofs.YtddkkmdbolgnlaaDoor.Fw
