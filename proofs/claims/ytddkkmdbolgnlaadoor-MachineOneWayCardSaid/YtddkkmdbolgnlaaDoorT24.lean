/- A part of the proof: steps of the walk and laws that the claim's theorem rests on; each lemma states its own conditions. -/
import Derived.Test.YtddkkmdbolgnlaaDoorT23
import Derived.Test.YtddkkmdbolgnlaaDoorWalkG
import Derived.Test.YtddkkmdbolgnlaaDoorProg
set_option linter.unusedVariables false
set_option linter.unusedSimpArgs false
namespace Go.Proofs.YtddkkmdbolgnlaaDoor.Fw
open Go.Proofs
set_option maxRecDepth 100000
set_option linter.unusedVariables false
set_option linter.unusedSimpArgs false
theorem tF26_0_y : offT Tryd.prog 26 0 = some 0 := by kernel_rfl
theorem tA22_y : aggT Tryd.prog 22 = some false := by kernel_rfl
theorem tE22_y : sliceT Tryd.prog 22 = some 52 := by kernel_rfl
theorem tF26_1_y : offT Tryd.prog 26 1 = some 1 := by kernel_rfl
theorem tA23_y : aggT Tryd.prog 23 = some false := by kernel_rfl
theorem tE23_y : sliceT Tryd.prog 23 = some 64 := by kernel_rfl
theorem tF26_2_y : offT Tryd.prog 26 2 = some 2 := by kernel_rfl
theorem tA24_y : aggT Tryd.prog 24 = some false := by kernel_rfl
theorem tE24_y : sliceT Tryd.prog 24 = some 75 := by kernel_rfl
theorem tS52_y : szT Tryd.prog 52 = some 2 := by kernel_rfl
theorem tF52_1_y : offT Tryd.prog 52 1 = some 1 := by kernel_rfl
theorem tA50_y : aggT Tryd.prog 50 = some false := by kernel_rfl
theorem tE50_y : sliceT Tryd.prog 50 = some 83 := by kernel_rfl
theorem tE27_y : sliceT Tryd.prog 27 = some 2 := by kernel_rfl
theorem tMixed_y : Tryd.prog.follows .mixedOrders = true := by kernel_rfl
theorem tS2_y : szT Tryd.prog 2 = some 1 := by kernel_rfl
theorem tA2_y : aggT Tryd.prog 2 = some false := by kernel_rfl
theorem tF34_0_y : offT Tryd.prog 34 0 = some 0 := by kernel_rfl
theorem tA30_y : aggT Tryd.prog 30 = some false := by kernel_rfl
theorem tF34_1_y : offT Tryd.prog 34 1 = some 1 := by kernel_rfl
theorem tF34_2_y : offT Tryd.prog 34 2 = some 2 := by kernel_rfl
theorem tA31_y : aggT Tryd.prog 31 = some false := by kernel_rfl
theorem tF34_4_y : offT Tryd.prog 34 4 = some 4 := by kernel_rfl
theorem tA27_y : aggT Tryd.prog 27 = some false := by kernel_rfl
theorem okF8_y : okFn Tryd.prog 8 Tryd.f8 := ⟨Tryd.func8, by kernel_rfl, rfl⟩
theorem tZ26_y : zeroT Tryd.prog 26 = some (.agg [(.slice none 0 0), (.slice none 0 0), (.slice none 0 0), (.int .i64 0)].toArray) := by kernel_rfl
theorem tSt64_y : structT Tryd.prog 64 = some [(0, 1), (1, 1), (2, 1)] := by kernel_rfl
theorem tZ64_y : zeroT Tryd.prog 64 = some (.agg [(.int .i64 0), (.int .i64 0), (.int .i64 0)].toArray) := by kernel_rfl
theorem tS64_y : szT Tryd.prog 64 = some 3 := by kernel_rfl
theorem tSt75_y : structT Tryd.prog 75 = some [(0, 1), (1, 1), (2, 1), (3, 1), (4, 1)] := by kernel_rfl
theorem tZ75_y : zeroT Tryd.prog 75 = some (.agg [(.int .u8 0), (.int .i64 0), (.int .i64 0), (.int .i64 0), (.int .i64 0)].toArray) := by kernel_rfl
theorem tS75_y : szT Tryd.prog 75 = some 5 := by kernel_rfl
theorem tSt26_y : structT Tryd.prog 26 = some [(0, 1), (1, 1), (2, 1), (3, 1)] := by kernel_rfl
theorem tS26_y : szT Tryd.prog 26 = some 4 := by kernel_rfl
theorem tA26_y : aggT Tryd.prog 26 = some true := by kernel_rfl
theorem fits_spec (c : CodeD) (I : Mem) (v1 v2 v3 : Value) (hc : CodeC I c v1 v2 v3) : SpecR Tryd.prog 4 [.agg [v1, v2, v3, .int .i64 c.main].toArray] I (fun v I' => I' = I ∧ ∃ b, v = .bool b) := by
  obtain ⟨hs1, hs2, hs3, hmain⟩ := id hc
  obtain ⟨A1, k1, rfl, hm1, hc1, hS1⟩ := hs1
  obtain ⟨A2, k2, rfl, hm2, hc2, hS2⟩ := hs2
  obtain ⟨A3, k3, rfl, hm3, hc3, hS3⟩ := hs3
  refine SpecR.intro Tryd.func4 rfl rfl fun w0 => ?_
  show WC _ _ _ _ [] [(0, _)] _ _ _
  refine WC.seq ?_
  refine WC.region ?_
  refine WL.box rfl rfl rfl (fun b1 => ?_)
  refine WL.assign rfl rfl ?_
  refine WL.nil ?_
  refine WE.then_normal ?_
  refine WC.seq ?_
  refine WC.seq ?_
  refine WC.region ?_
  refine WL.fieldAddr rfl tF26_0_y rfl ?_
  refine WL.load_own 0 rfl rfl tA22_y rfl rfl ?_
  refine WL.len_slice rfl tE22_y rfl ?_
  refine WL.arith rfl rfl rfl rfl ?_
  refine WL.move rfl rfl ?_
  refine WL.split 8 rfl (fun h2 => ?_) (fun h2 => ?_)
  · try simp at h2
    try (exfalso; omega)
    all_goals (
      refine WL.guard_no rfl rfl rfl rfl ?_
      refine WL.guard_no rfl rfl rfl rfl ?_
      refine WL.guard_no rfl rfl rfl rfl ?_
      refine WL.guard_no rfl rfl rfl rfl ?_
      refine WL.pick_true rfl rfl rfl ?_
      refine WL.move rfl rfl ?_
      refine WL.guard_no rfl rfl rfl rfl ?_
      refine WL.guard_no rfl rfl rfl rfl ?_
      refine WL.guard_no rfl rfl rfl rfl ?_
      refine WL.guard_no rfl rfl rfl rfl ?_
      refine WL.pick_true rfl rfl rfl ?_
      refine WL.nil ?_
      refine WE.then_normal ?_
      refine WC.cond_true rfl ?_
      refine WC.seq ?_
      refine WC.region ?_
      refine WL.assign rfl rfl ?_
      refine WL.nil ?_
      refine WE.then_normal ?_
      refine WC.ret ?_
      refine WE.then_ret ?_
      refine WE.retRr rfl (.cons (.tmp rfl) .nil) rfl ?_
      exact ⟨rfl, _, rfl⟩
    )
  · try simp at h2
    try (exfalso; omega)
    all_goals (
      refine WL.guard_yes rfl rfl ?_
      refine WL.fieldAddr rfl tF26_1_y rfl ?_
      refine WL.guard_yes rfl rfl ?_
      refine WL.load_own 0 rfl rfl tA23_y rfl rfl ?_
      refine WL.guard_yes rfl rfl ?_
      refine WL.len_slice rfl tE23_y rfl ?_
      refine WL.guard_yes rfl rfl ?_
      refine WL.arith rfl rfl rfl rfl ?_
      refine WL.pick_false rfl rfl rfl ?_
      refine WL.move rfl rfl ?_
      refine WL.split 14 rfl (fun h3 => ?_) (fun h3 => ?_)
      · try simp at h3
        try (exfalso; omega)
        all_goals (
          refine WL.guard_no rfl rfl rfl rfl ?_
          refine WL.guard_no rfl rfl rfl rfl ?_
          refine WL.guard_no rfl rfl rfl rfl ?_
          refine WL.guard_no rfl rfl rfl rfl ?_
          refine WL.pick_true rfl rfl rfl ?_
          refine WL.nil ?_
          refine WE.then_normal ?_
          refine WC.cond_true rfl ?_
          refine WC.seq ?_
          refine WC.region ?_
          refine WL.assign rfl rfl ?_
          refine WL.nil ?_
          refine WE.then_normal ?_
          refine WC.ret ?_
          refine WE.then_ret ?_
          refine WE.retRr rfl (.cons (.tmp rfl) .nil) rfl ?_
          exact ⟨rfl, _, rfl⟩
        )
      · try simp at h3
        try (exfalso; omega)
        all_goals (
          refine WL.guard_yes rfl rfl ?_
          refine WL.fieldAddr rfl tF26_2_y rfl ?_
          refine WL.guard_yes rfl rfl ?_
          refine WL.load_own 0 rfl rfl tA24_y rfl rfl ?_
          refine WL.guard_yes rfl rfl ?_
          refine WL.len_slice rfl tE24_y rfl ?_
          refine WL.guard_yes rfl rfl ?_
          refine WL.arith rfl rfl rfl rfl ?_
          refine WL.pick_false rfl rfl rfl ?_
          refine WL.nil ?_
          refine WE.then_normal ?_
          refine WC.condT rfl (fun h4 => ?_) (fun h4 => ?_)
          · try simp at h4
            try (exfalso; omega)
            all_goals (
              refine WC.seq ?_
              refine WC.region ?_
              refine WL.assign rfl rfl ?_
              refine WL.nil ?_
              refine WE.then_normal ?_
              refine WC.ret ?_
              refine WE.then_ret ?_
              refine WE.retRr rfl (.cons (.tmp rfl) .nil) rfl ?_
              exact ⟨rfl, _, rfl⟩
            )
          · try simp at h4
            try (exfalso; omega)
            all_goals (
              refine WC.skip ?_
              refine WE.then_normal ?_
              refine WC.seq ?_
              refine WC.seq ?_
              refine WC.region ?_
              refine WL.assign rfl rfl ?_
              refine WL.nil ?_
              refine WE.then_normal ?_
              refine WC.block ?_
              refine WC.loopV (X := Nat) [1] rfl (fun k => [(3, .int .i64 (k : Int))]) (fun k => k ≤ c.shapes.length) (fun k => c.shapes.length - k) 0 (Nat.zero_le _) ⟨rfl, trivial⟩ (fun k hinv => ?_)
              refine WC.seq ?_
              refine WC.seq ?_
              refine WC.region ?_
              refine WL.move rfl rfl ?_
              refine WL.fieldAddr rfl tF26_0_y rfl ?_
              refine WL.load_own 0 rfl rfl tA22_y rfl rfl ?_
              refine WL.len_slice rfl tE22_y rfl ?_
              refine WL.arith rfl rfl rfl rfl ?_
              refine WL.nil ?_
              refine WE.then_normal ?_
              refine WC.condT rfl (fun h5 => ?_) (fun h5 => ?_)
              · try simp at h5
                try (exfalso; omega)
                all_goals (
                  refine WC.skip ?_
                  refine WE.then_normal ?_
                  refine WC.seq ?_
                  refine WC.block ?_
                  refine WC.seq ?_
                  refine WC.region ?_
                  obtain ⟨sh, hsh⟩ : ∃ y, c.shapes[k]? = some y := ⟨_, List.getElem?_eq_getElem (by omega)⟩
                  obtain ⟨bsh, osh, us, rfl, hus, hrows, hshr⟩ := hS1 _ sh hsh
                  obtain ⟨Ab, kb, rfl, hbl, hbk, hSb, hsw⟩ := hshr
                  refine WL.fieldAddr rfl tF26_0_y rfl ?_
                  refine WL.load_own 0 rfl rfl tA22_y rfl rfl ?_
                  refine WL.move rfl rfl ?_
                  refine WL.indexAddr rfl rfl tE22_y tS52_y rfl (by first | omega) ?_
                  refine WL.fieldAddr rfl tF52_1_y rfl ?_
                  refine WL.load_imm rfl tA50_y rfl (by first | exact hrows 1 _ rfl) ?_
                  refine WL.len_slice rfl tE50_y rfl ?_
                  refine WL.arith rfl rfl rfl rfl ?_
                  refine WL.nil ?_
                  refine WE.then_normal ?_
                  refine WC.condT rfl (fun h6 => ?_) (fun h6 => ?_)
                  · try simp at h6
                    try (exfalso; omega)
                    all_goals (
                      refine WC.seq ?_
                      refine WC.region ?_
                      refine WL.assign rfl rfl ?_
                      refine WL.nil ?_
                      refine WE.then_normal ?_
                      refine WC.ret ?_
                      refine WE.block_ret ?_
                      refine WE.then_ret ?_
                      refine WE.then_ret ?_
                      refine WE.block_ret ?_
                      refine WE.then_ret ?_
                      refine WE.retRr rfl (.cons (.tmp rfl) .nil) rfl ?_
                      exact ⟨rfl, _, rfl⟩
                    )
                  · try simp at h6
                    try (exfalso; omega)
                    all_goals (
                      refine WC.skip ?_
                      refine WE.block_normal ?_
                      refine WE.then_normal ?_
                      refine WC.region ?_
                      refine WL.move rfl rfl ?_
                      first | refine WL.add rfl rfl (by omega) rfl ?_ | refine WL.arith rfl rfl rfl rfl ?_
                      refine WL.assign rfl rfl ?_
                      refine WL.nil ?_
                      refine WE.backV (k + 1) (by omega) (by omega) ⟨rfl, trivial⟩ (by repeat (first | exact trivial | refine ⟨rfl, ?_⟩))
                    )
                )
              · try simp at h5
                try (exfalso; omega)
                all_goals (
                  refine WC.exit ?_
                  refine WE.then_exit ?_
                  refine WE.then_exit ?_
                  refine WE.block_exit ?_
                  refine WE.then_normal ?_
                  refine WC.seq ?_
                  refine WC.region ?_
                  refine WL.assign rfl rfl ?_
                  refine WL.nil ?_
                  refine WE.then_normal ?_
                  refine WC.ret ?_
                  refine WE.retRr rfl (.cons (.tmp rfl) .nil) rfl ?_
                  exact ⟨rfl, _, rfl⟩
                )
            )
        )
    )
theorem begins_spec (l1 l2 : List Int) (A B : Option Addr) (k1 k2 : Nat) (I : Mem) (hA : RowA I A (ints l1)) (hB : RowA I B (ints (l1 ++ l2))) (hl1 : l1.length ≤ 16777216) : SpecV Tryd.prog 8 [.slice A l1.length k1, .slice B (l1 ++ l2).length k2] I (.bool true) := by
  have hlen : (l1 ++ l2).length = l1.length + l2.length := by simp
  refine SpecV.intro Tryd.func8 rfl rfl fun w0 => ?_
  show WC _ _ _ _ [] [(0, _), (1, _)] _ _ _
  refine WC.seq ?_
  refine WC.region ?_
  refine WL.assign rfl rfl ?_
  refine WL.nil ?_
  refine WE.then_normal ?_
  refine WC.seq ?_
  refine WC.seq ?_
  refine WC.region ?_
  refine WL.move rfl rfl ?_
  refine WL.len_slice rfl tE27_y rfl ?_
  refine WL.move rfl rfl ?_
  refine WL.len_slice rfl tE27_y rfl ?_
  refine WL.arith rfl rfl rfl rfl ?_
  refine WL.nil ?_
  refine WE.then_normal ?_
  refine WC.condT rfl (fun h1 => ?_) (fun h1 => ?_)
  · try simp at h1
    try (exfalso; omega)
    all_goals (
      refine WC.seq ?_
      refine WC.region ?_
      refine WL.assign rfl rfl ?_
      refine WL.nil ?_
      refine WE.then_normal ?_
      refine WC.ret ?_
      refine WE.then_ret ?_
      refine WE.retV [4] rfl rfl rfl ?_
      rfl
    )
  · try simp at h1
    try (exfalso; omega)
    all_goals (
      refine WC.skip ?_
      refine WE.then_normal ?_
      refine WC.seq ?_
      refine WC.seq ?_
      refine WC.region ?_
      refine WL.assign rfl rfl ?_
      refine WL.nil ?_
      refine WE.then_normal ?_
      refine WC.block ?_
      refine WC.loopV (X := Nat) [0, 1] rfl (fun k => [(5, .int .i64 (k : Int))]) (fun k => k ≤ l1.length) (fun k => l1.length - k) 0 (Nat.zero_le _) ⟨rfl, trivial⟩ (fun k hinv => ?_)
      refine WC.seq ?_
      refine WC.seq ?_
      refine WC.region ?_
      refine WL.move rfl rfl ?_
      refine WL.move rfl rfl ?_
      refine WL.len_slice rfl tE27_y rfl ?_
      refine WL.arith rfl rfl rfl rfl ?_
      refine WL.nil ?_
      refine WE.then_normal ?_
      refine WC.condT rfl (fun h2 => ?_) (fun h2 => ?_)
      · try simp at h2
        try (exfalso; omega)
        all_goals (
          refine WC.skip ?_
          refine WE.then_normal ?_
          refine WC.seq ?_
          refine WC.block ?_
          refine WC.seq ?_
          refine WC.region_draw tMixed_y (by kernel_rfl) ?_
          obtain ⟨v, hv⟩ : ∃ v, l1[k]? = some v := ⟨_, List.getElem?_eq_getElem (by omega)⟩
          have hv2 : (l1 ++ l2)[k]? = some v := by rw [List.getElem?_append_left (by omega)]; exact hv
          obtain ⟨ba, rfl, hca⟩ := hA.at_ hv
          obtain ⟨bb, rfl, hcb⟩ := hB.at_ hv2
          refine WL.move rfl rfl ?_
          refine WL.move rfl rfl ?_
          refine WL.indexAddr rfl rfl tE27_y tS2_y rfl (by first | omega) ?_
          refine WL.load_imm rfl tA2_y rfl (by first | exact hca | exact hcb) ?_
          refine WL.move rfl rfl ?_
          refine WL.move rfl rfl ?_
          refine WL.indexAddr rfl rfl tE27_y tS2_y rfl (by first | omega) ?_
          refine WL.load_imm rfl tA2_y rfl (by first | exact hca | exact hcb) ?_
          refine WL.arith rfl rfl rfl rfl ?_
          refine WL.nil ?_
          refine WE.then_normal ?_
          refine WC.condT rfl (fun h3 => ?_) (fun h3 => ?_)
          · try simp at h3
            try (exfalso; omega)
            all_goals (
              refine WC.seq ?_
              refine WC.region ?_
              refine WL.assign rfl rfl ?_
              refine WL.nil ?_
              refine WE.then_normal ?_
              refine WC.ret ?_
              refine WE.block_ret ?_
              refine WE.then_ret ?_
              refine WE.then_ret ?_
              refine WE.block_ret ?_
              refine WE.then_ret ?_
              refine WE.retV [4] rfl rfl rfl ?_
              rfl
            )
          · try simp at h3
            try (exfalso; omega)
            all_goals (
              refine WC.skip ?_
              refine WE.block_normal ?_
              refine WE.then_normal ?_
              refine WC.region ?_
              refine WL.move rfl rfl ?_
              first | refine WL.add rfl rfl (by omega) rfl ?_ | refine WL.arith rfl rfl rfl rfl ?_
              refine WL.assign rfl rfl ?_
              refine WL.nil ?_
              refine WE.backV (k + 1) (by omega) (by omega) ⟨rfl, trivial⟩ (by repeat (first | exact trivial | refine ⟨rfl, ?_⟩))
            )
        )
      · try simp at h2
        try (exfalso; omega)
        all_goals (
          refine WC.exit ?_
          refine WE.then_exit ?_
          refine WE.then_exit ?_
          refine WE.block_exit ?_
          refine WE.then_normal ?_
          refine WC.seq ?_
          refine WC.region ?_
          refine WL.assign rfl rfl ?_
          refine WL.nil ?_
          refine WE.then_normal ?_
          refine WC.ret ?_
          refine WE.retV [4] rfl rfl rfl ?_
          rfl
        )
    )
theorem alike_spec (m : MachD) (A B : Option Addr) (k1 k2 : Nat) (I : Mem) (hA : RowA I A (ints m.printed)) (hB : RowA I B (ints m.printed)) (hl1 : m.printed.length ≤ 16777216) : SpecV Tryd.prog 9 [outV m A k1, outV m B k2] I (.bool true) := by
  rw [outV_eq, outV_eq]
  refine SpecV.intro Tryd.func9 rfl rfl fun w0 => ?_
  show WC _ _ _ _ [] [(0, _), (1, _)] _ _ _
  refine WC.seq ?_
  refine WC.region ?_
  refine WL.box rfl rfl rfl (fun b1 => ?_)
  refine WL.box rfl rfl rfl (fun b2 => ?_)
  refine WL.assign rfl rfl ?_
  refine WL.nil ?_
  refine WE.then_normal ?_
  refine WC.seq ?_
  refine WC.region ?_
  refine WL.fieldAddr rfl tF34_0_y rfl ?_
  refine WL.load_own 1 rfl rfl tA30_y rfl rfl ?_
  refine WL.fieldAddr rfl tF34_0_y rfl ?_
  refine WL.load_own 0 rfl rfl tA30_y rfl rfl ?_
  refine WL.arith (v := .bool true) rfl rfl (by simp [Fw.arith]) rfl ?_
  refine WL.move rfl rfl ?_
  refine WL.guard_yes rfl rfl ?_
  refine WL.fieldAddr rfl tF34_1_y rfl ?_
  refine WL.guard_yes rfl rfl ?_
  refine WL.load_own 1 rfl rfl tA2_y rfl rfl ?_
  refine WL.guard_yes rfl rfl ?_
  refine WL.fieldAddr rfl tF34_1_y rfl ?_
  refine WL.guard_yes rfl rfl ?_
  refine WL.load_own 0 rfl rfl tA2_y rfl rfl ?_
  refine WL.guard_yes rfl rfl ?_
  refine WL.arith (v := .bool true) rfl rfl (by simp [Fw.arith]) rfl ?_
  refine WL.pick_true rfl rfl rfl ?_
  refine WL.move rfl rfl ?_
  refine WL.guard_yes rfl rfl ?_
  refine WL.fieldAddr rfl tF34_2_y rfl ?_
  refine WL.guard_yes rfl rfl ?_
  refine WL.load_own 1 rfl rfl tA31_y rfl rfl ?_
  refine WL.guard_yes rfl rfl ?_
  refine WL.fieldAddr rfl tF34_2_y rfl ?_
  refine WL.guard_yes rfl rfl ?_
  refine WL.load_own 0 rfl rfl tA31_y rfl rfl ?_
  refine WL.guard_yes rfl rfl ?_
  refine WL.arith (v := .bool true) rfl rfl (by simp [Fw.arith]) rfl ?_
  refine WL.pick_true rfl rfl rfl ?_
  refine WL.move rfl rfl ?_
  refine WL.guard_yes rfl rfl ?_
  refine WL.fieldAddr rfl tF34_4_y rfl ?_
  refine WL.guard_yes rfl rfl ?_
  refine WL.load_own 1 rfl rfl tA27_y rfl rfl ?_
  refine WL.guard_yes rfl rfl ?_
  refine WL.len_slice rfl tE27_y rfl ?_
  refine WL.guard_yes rfl rfl ?_
  refine WL.fieldAddr rfl tF34_4_y rfl ?_
  refine WL.guard_yes rfl rfl ?_
  refine WL.load_own 0 rfl rfl tA27_y rfl rfl ?_
  refine WL.guard_yes rfl rfl ?_
  refine WL.len_slice rfl tE27_y rfl ?_
  refine WL.guard_yes rfl rfl ?_
  refine WL.arith (v := .bool true) rfl rfl (by simp [Fw.arith]) rfl ?_
  refine WL.pick_true rfl rfl rfl ?_
  refine WL.move rfl rfl ?_
  refine WL.guard_yes rfl rfl ?_
  refine WL.fieldAddr rfl tF34_4_y rfl ?_
  refine WL.guard_yes rfl rfl ?_
  refine WL.load_own 1 rfl rfl tA27_y rfl rfl ?_
  refine WL.guard_yes rfl rfl ?_
  refine WL.fieldAddr rfl tF34_4_y rfl ?_
  refine WL.guard_yes rfl rfl ?_
  refine WL.load_own 0 rfl rfl tA27_y rfl rfl ?_
  refine WL.guard_yes rfl rfl ?_
  refine WL.callV okF8_y rfl rfl (by simpa using begins_spec m.printed [] A B k1 k2 I hA (by simpa using hB) hl1) ?_
  refine WL.pick_true rfl rfl rfl ?_
  refine WL.assign rfl rfl ?_
  refine WL.nil ?_
  refine WE.then_normal ?_
  refine WC.ret ?_
  refine WE.retV [4] rfl rfl rfl ?_
  rfl
theorem seven_spec (I : Mem) : SpecR Tryd.prog 17 [] I (fun v I' => I.le I' ∧ ∃ w1 w2 w3, v = .agg [w1, w2, w3, .int .i64 sevenC.main].toArray ∧ CodeC I' sevenC w1 w2 w3) := by
  refine SpecR.intro Tryd.func17 rfl rfl fun w0 => ?_
  show WC _ _ _ _ [] [] _ _ _
  refine WC.seq ?_
  refine WC.region ?_
  refine WL.alloc tZ26_y rfl rfl (fun b1 => ?_)
  refine WL.nil ?_
  refine WE.then_normal ?_
  refine WC.seq ?_
  refine WC.region ?_
  refine WL.build_struct rfl tZ64_y tSt64_y rfl rfl rfl ?_
  refine WL.buildSlice_lit rfl tE23_y tS64_y tZ64_y rfl rfl rfl rfl rfl rfl rfl (fun b2 => ?_)
  refine WL.build_struct rfl tZ75_y tSt75_y rfl rfl rfl ?_
  refine WL.build_struct rfl tZ75_y tSt75_y rfl rfl rfl ?_
  refine WL.build_struct rfl tZ75_y tSt75_y rfl rfl rfl ?_
  refine WL.build_struct rfl tZ75_y tSt75_y rfl rfl rfl ?_
  refine WL.build_struct rfl tZ75_y tSt75_y rfl rfl rfl ?_
  refine WL.build_struct rfl tZ75_y tSt75_y rfl rfl rfl ?_
  refine WL.buildSlice_lit rfl tE24_y tS75_y tZ75_y rfl rfl rfl rfl rfl rfl rfl (fun b3 => ?_)
  refine WL.pick [1, 0, 2] rfl rfl ?_
  refine WL.freeze' (fun I1 hI1 hb1 => ?_)
  refine WL.freeze' (fun I2 hI2 hb2 => ?_)
  refine WL.build_struct rfl tZ26_y tSt26_y rfl rfl rfl ?_
  refine WL.store 0 rfl rfl rfl rfl tS26_y rfl rfl rfl rfl rfl ?_
  refine WL.nil ?_
  refine WE.then_normal ?_
  refine WC.ret ?_
  refine WE.retRr rfl (.cons (.agg 0 rfl rfl tA26_y tS26_y rfl) .nil) rfl ?_
  exact ⟨Mem.le_trans hI1 hI2, _, _, _, rfl, seven_codeC (hI2 _ _ hb1) hb2⟩
end Go.Proofs.YtddkkmdbolgnlaaDoor.Fw
