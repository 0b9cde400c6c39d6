/- A part of the proof: steps of the walk and laws that the claim's theorem rests on; each lemma states its own conditions. -/
import Derived.Test.YtddkkmdbolgnlaaDoorT8
import Derived.Test.YtddkkmdbolgnlaaDoorWalkD
import Derived.Test.YtddkkmdbolgnlaaDoorProg
set_option linter.unusedVariables false
set_option linter.unusedSimpArgs false
namespace Go.Proofs.YtddkkmdbolgnlaaDoor.Fw
open Go.Proofs
set_option maxRecDepth 100000
set_option linter.unusedVariables false
set_option linter.unusedSimpArgs false
theorem tF26_0_k : offT Tryd.prog 26 0 = some 0 := by kernel_rfl
theorem tA22_k : aggT Tryd.prog 22 = some false := by kernel_rfl
theorem okF44_k : okFn Tryd.prog 44 Tryd.f44 := ⟨Tryd.func44, by kernel_rfl, rfl⟩
theorem tF26_1_k : offT Tryd.prog 26 1 = some 1 := by kernel_rfl
theorem tA23_k : aggT Tryd.prog 23 = some false := by kernel_rfl
theorem tE23_k : sliceT Tryd.prog 23 = some 64 := by kernel_rfl
theorem tF26_3_k : offT Tryd.prog 26 3 = some 3 := by kernel_rfl
theorem tA3_k : aggT Tryd.prog 3 = some false := by kernel_rfl
theorem tF26_2_k : offT Tryd.prog 26 2 = some 2 := by kernel_rfl
theorem tA24_k : aggT Tryd.prog 24 = some false := by kernel_rfl
theorem tE24_k : sliceT Tryd.prog 24 = some 75 := by kernel_rfl
theorem okF42_k : okFn Tryd.prog 42 Tryd.f42 := ⟨Tryd.func42, by kernel_rfl, rfl⟩
theorem okF43_k : okFn Tryd.prog 43 Tryd.f43 := ⟨Tryd.func43, by kernel_rfl, rfl⟩
theorem okF46_k : okFn Tryd.prog 46 Tryd.f46 := ⟨Tryd.func46, by kernel_rfl, rfl⟩
theorem okF48_k : okFn Tryd.prog 48 Tryd.f48 := ⟨Tryd.func48, by kernel_rfl, rfl⟩
theorem tS64_k : szT Tryd.prog 64 = some 3 := by kernel_rfl
theorem tA64_k : aggT Tryd.prog 64 = some true := by kernel_rfl
theorem tZ64_k : zeroT Tryd.prog 64 = some (.agg [(.int .i64 0), (.int .i64 0), (.int .i64 0)].toArray) := by kernel_rfl
theorem tF64_0_k : offT Tryd.prog 64 0 = some 0 := by kernel_rfl
theorem tF64_1_k : offT Tryd.prog 64 1 = some 1 := by kernel_rfl
theorem tF64_2_k : offT Tryd.prog 64 2 = some 2 := by kernel_rfl
theorem tS3_k : szT Tryd.prog 3 = some 1 := by kernel_rfl
theorem tZ3_k : zeroT Tryd.prog 3 = some (.int .i64 0) := by kernel_rfl
theorem okF50_k : okFn Tryd.prog 50 Tryd.f50 := ⟨Tryd.func50, by kernel_rfl, rfl⟩
theorem tMixed_k : Tryd.prog.follows .mixedOrders = true := by kernel_rfl
theorem tS75_k : szT Tryd.prog 75 = some 5 := by kernel_rfl
theorem tA75_k : aggT Tryd.prog 75 = some true := by kernel_rfl
theorem okF53_k : okFn Tryd.prog 53 Tryd.f53 := ⟨Tryd.func53, by kernel_rfl, rfl⟩
theorem tA26_k : aggT Tryd.prog 26 = some true := by kernel_rfl
theorem tS26_k : szT Tryd.prog 26 = some 4 := by kernel_rfl
theorem okF55_k : okFn Tryd.prog 55 Tryd.f55 := ⟨Tryd.func55, by kernel_rfl, rfl⟩
theorem okF54_k : okFn Tryd.prog 54 Tryd.f54 := ⟨Tryd.func54, by kernel_rfl, rfl⟩
theorem okF52_k : okFn Tryd.prog 52 Tryd.f52 := ⟨Tryd.func52, by kernel_rfl, rfl⟩
theorem okF58_k : okFn Tryd.prog 58 Tryd.f58 := ⟨Tryd.func58, by kernel_rfl, rfl⟩
theorem tF75_0_k : offT Tryd.prog 75 0 = some 0 := by kernel_rfl
theorem tA73_k : aggT Tryd.prog 73 = some false := by kernel_rfl
theorem okF57_k : okFn Tryd.prog 57 Tryd.f57 := ⟨Tryd.func57, by kernel_rfl, rfl⟩
theorem tZ99_k : zeroT Tryd.prog 99 = some (.agg [.nilFunc, .nilFunc, .nilFunc, .nilFunc, .nilFunc, .nilFunc].toArray) := by kernel_rfl
theorem tAr99_k : arrT Tryd.prog 99 = some (6, 46) := by kernel_rfl
theorem tS46_k : szT Tryd.prog 46 = some 1 := by kernel_rfl
theorem tS99_k : szT Tryd.prog 99 = some 6 := by kernel_rfl
theorem tA99_k : aggT Tryd.prog 99 = some true := by kernel_rfl
theorem tA46_k : aggT Tryd.prog 46 = some false := by kernel_rfl
theorem okF41_k : okFn Tryd.prog 41 Tryd.f41 := ⟨Tryd.func41, by kernel_rfl, rfl⟩
theorem okF45_k : okFn Tryd.prog 45 Tryd.f45 := ⟨Tryd.func45, by kernel_rfl, rfl⟩
theorem okF47_k : okFn Tryd.prog 47 Tryd.f47 := ⟨Tryd.func47, by kernel_rfl, rfl⟩
theorem okF49_k : okFn Tryd.prog 49 Tryd.f49 := ⟨Tryd.func49, by kernel_rfl, rfl⟩
theorem okF51_k : okFn Tryd.prog 51 Tryd.f51 := ⟨Tryd.func51, by kernel_rfl, rfl⟩
theorem okF56_k : okFn Tryd.prog 56 Tryd.f56 := ⟨Tryd.func56, by kernel_rfl, rfl⟩
theorem okF32_k : okFn Tryd.prog 32 Tryd.f32 := ⟨Tryd.func32, by kernel_rfl, rfl⟩
theorem firstV_spec (p : Nat → Bool) (n : Nat) (I : Mem) {f : FuncId} {fn : Func} {caps : List Value} (hok : okFn Tryd.prog f fn) (hn : n ≤ 9223372036854775807)
    (hf : ∀ k, k < n → (∀ j, j < k → p j = true) → SpecV Tryd.prog f ([] ++ [.int .i64 (k : Int)] ++ caps) I (.bool (p k))) : SpecV Tryd.prog 42 [.int .i64 (n : Int), .func (.func f) [].toArray caps.toArray] I (.int .i64 (firstNot p n)) := by
  refine SpecV.intro Tryd.func42 rfl rfl fun w0 => ?_
  show WC _ _ _ _ [] [(0, _), (1, _)] _ _ _
  refine WC.seq ?_
  refine WC.region ?_
  refine WL.assign rfl rfl ?_
  refine WL.nil ?_
  refine WE.then_normal ?_
  refine WC.seq ?_
  refine WC.seq ?_
  refine WC.region ?_
  refine WL.move rfl rfl ?_
  refine WL.move rfl rfl ?_
  refine WL.nil ?_
  refine WE.then_normal ?_
  refine WC.block ?_
  refine WC.loopV (X := Nat) [1, 6] rfl (fun k => [(7, .int .i64 (k : Int))]) (fun k => k ≤ n ∧ ∀ j, j < k → p j = true) (fun k => n - k) 0 (⟨Nat.zero_le _, fun j h => absurd h (Nat.not_lt_zero _)⟩) ⟨rfl, trivial⟩ (fun k hinv => ?_)
  obtain ⟨hk, hall⟩ := hinv
  refine WC.seq ?_
  refine WC.region ?_
  refine WL.arith rfl rfl rfl rfl ?_
  refine WL.nil ?_
  refine WE.then_normal ?_
  refine WC.seq ?_
  refine WC.condT rfl (fun h1 => ?_) (fun h1 => ?_)
  · try simp at h1
    all_goals (
      refine WC.skip ?_
      refine WE.then_normal ?_
      refine WC.seq ?_
      refine WC.block ?_
      refine WC.seq ?_
      refine WC.region ?_
      refine WL.move rfl rfl ?_
      refine WL.assign rfl rfl ?_
      refine WL.nil ?_
      refine WE.then_normal ?_
      refine WC.seq ?_
      refine WC.region ?_
      refine WL.move rfl rfl ?_
      refine WL.move rfl rfl ?_
      refine WL.callVal hok rfl rfl rfl (hf k (by omega) hall) ?_
      refine WL.not rfl rfl ?_
      refine WL.nil ?_
      refine WE.then_normal ?_
      refine WC.condT rfl (fun h2 => ?_) (fun h2 => ?_)
      · try simp at h2
        all_goals (
          refine WC.seq ?_
          refine WC.region ?_
          refine WL.move rfl rfl ?_
          refine WL.assign rfl rfl ?_
          refine WL.nil ?_
          refine WE.then_normal ?_
          refine WC.ret ?_
          refine WE.block_ret ?_
          refine WE.then_ret ?_
          refine WE.then_ret ?_
          refine WE.block_ret ?_
          refine WE.then_ret ?_
          refine WE.retV [4] rfl rfl rfl ?_
          first | (rw [firstNot_hit (by omega) hall ‹_›]; rfl) | (rw [firstNot_miss (fun j hj => hall j (by omega))]; rfl)
        )
      · try simp at h2
        all_goals (
          refine WC.skip ?_
          refine WE.block_normal ?_
          refine WE.then_normal ?_
          refine WC.region ?_
          first | refine WL.add rfl rfl (by omega) rfl ?_ | refine WL.arith rfl rfl rfl rfl ?_
          refine WL.move rfl rfl ?_
          refine WL.nil ?_
          refine WE.backV (k + 1) (⟨by omega, fun j hj => by
            rcases Nat.lt_succ_iff_lt_or_eq.1 hj with h | h
            · exact hall j h
            · rw [h]; assumption⟩) (by omega) ⟨rfl, trivial⟩ (by repeat (first | exact trivial | refine ⟨rfl, ?_⟩))
        )
    )
  · try simp at h1
    all_goals (
      refine WC.exit ?_
      refine WE.then_exit ?_
      refine WE.then_exit ?_
      refine WE.block_exit ?_
      refine WE.then_normal ?_
      refine WC.seq ?_
      refine WC.region ?_
      refine WL.assign rfl rfl ?_
      refine WL.nil ?_
      refine WE.then_normal ?_
      refine WC.ret ?_
      refine WE.retV [4] rfl rfl rfl ?_
      first | (rw [firstNot_hit (by omega) hall ‹_›]; rfl) | (rw [firstNot_miss (fun j hj => hall j (by omega))]; rfl)
    )
theorem firstC_spec (p : Nat → Bool) (n : Nat) (I : Mem) (S : Nat → Chunk) {f : FuncId} {fn : Func} {caps : List Value} (hok : okFn Tryd.prog f fn) (hn : n ≤ 9223372036854775807)
    (hf : ∀ k, k < n → (∀ j, j < k → p j = true) → Spec Tryd.prog f ([] ++ [.int .i64 (k : Int)] ++ caps) I (S k) (fun v I' C' => v = .bool (p k) ∧ I' = I ∧ C' = S (k + 1))) : Spec Tryd.prog 42 [.int .i64 (n : Int), .func (.func f) [].toArray caps.toArray] I (S 0) (fun v _ _ => v = .int .i64 (firstNot p n)) := by
  refine Spec.intro Tryd.func42 rfl rfl fun Γ => ?_
  show WC _ _ _ _ [] [(0, _), (1, _)] _ _ _
  refine WC.seq ?_
  refine WC.region ?_
  refine WL.assign rfl rfl ?_
  refine WL.nil ?_
  refine WE.then_normal ?_
  refine WC.seq ?_
  refine WC.seq ?_
  refine WC.region ?_
  refine WL.move rfl rfl ?_
  refine WL.move rfl rfl ?_
  refine WL.nil ?_
  refine WE.then_normal ?_
  refine WC.block ?_
  refine WC.loopG (X := Nat) [1, 6] rfl (fun k => [(7, .int .i64 (k : Int))]) (fun k => I) (fun k => [S k]) (fun k => k ≤ n ∧ ∀ j, j < k → p j = true) (fun k => n - k) 0 (⟨Nat.zero_le _, fun j h => absurd h (Nat.not_lt_zero _)⟩) ⟨rfl, trivial⟩ (rfl) (rfl) (fun k hinv => ?_)
  obtain ⟨hk, hall⟩ := hinv
  refine WC.seq ?_
  refine WC.region ?_
  refine WL.arith rfl rfl rfl rfl ?_
  refine WL.nil ?_
  refine WE.then_normal ?_
  refine WC.seq ?_
  refine WC.condT rfl (fun h1 => ?_) (fun h1 => ?_)
  · try simp at h1
    all_goals (
      refine WC.skip ?_
      refine WE.then_normal ?_
      refine WC.seq ?_
      refine WC.block ?_
      refine WC.seq ?_
      refine WC.region ?_
      refine WL.move rfl rfl ?_
      refine WL.assign rfl rfl ?_
      refine WL.nil ?_
      refine WE.then_normal ?_
      refine WC.seq ?_
      refine WC.region ?_
      refine WL.move rfl rfl ?_
      refine WL.move rfl rfl ?_
      refine WL.call_any hok rfl rfl rfl rfl rfl (hf k (by omega) hall) (fun v I' C' _ hv => ?_)
      obtain ⟨rfl, rfl, rfl⟩ := hv
      refine WL.not rfl rfl ?_
      refine WL.nil ?_
      refine WE.then_normal ?_
      refine WC.condT rfl (fun h2 => ?_) (fun h2 => ?_)
      · try simp at h2
        all_goals (
          refine WC.seq ?_
          refine WC.region ?_
          refine WL.move rfl rfl ?_
          refine WL.assign rfl rfl ?_
          refine WL.nil ?_
          refine WE.then_normal ?_
          refine WC.ret ?_
          refine WE.block_ret ?_
          refine WE.then_ret ?_
          refine WE.then_ret ?_
          refine WE.block_ret ?_
          refine WE.then_ret ?_
          refine WE.retCr rfl (.cons (.tmp rfl) .nil) rfl ?_
          first | (rw [firstNot_hit (by omega) hall ‹_›]; rfl) | (rw [firstNot_miss (fun j hj => hall j (by omega))]; rfl)
        )
      · try simp at h2
        all_goals (
          refine WC.skip ?_
          refine WE.block_normal ?_
          refine WE.then_normal ?_
          refine WC.region ?_
          first | refine WL.add rfl rfl (by omega) rfl ?_ | refine WL.arith rfl rfl rfl rfl ?_
          refine WL.move rfl rfl ?_
          refine WL.nil ?_
          refine WE.backG (k + 1) (⟨by omega, fun j hj => by
            rcases Nat.lt_succ_iff_lt_or_eq.1 hj with h | h
            · exact hall j h
            · rw [h]; assumption⟩) (by omega) ⟨rfl, trivial⟩ (by repeat (first | exact trivial | refine ⟨rfl, ?_⟩)) (rfl) (rfl)
        )
    )
  · try simp at h1
    all_goals (
      refine WC.exit ?_
      refine WE.then_exit ?_
      refine WE.then_exit ?_
      refine WE.block_exit ?_
      refine WE.then_normal ?_
      refine WC.seq ?_
      refine WC.region ?_
      refine WL.assign rfl rfl ?_
      refine WL.nil ?_
      refine WE.then_normal ?_
      refine WC.ret ?_
      refine WE.retCr rfl (.cons (.tmp rfl) .nil) rfl ?_
      first | (rw [firstNot_hit (by omega) hall ‹_›]; rfl) | (rw [firstNot_miss (fun j hj => hall j (by omega))]; rfl)
    )
theorem c11_spec (c : CodeD) (I : Mem) (b : Nat) (hc : CodeAt I b c) (i : Int) : SpecV Tryd.prog 43 ([] ++ [.int .i64 i] ++ [.pointer (some ⟨b, 0, none⟩)]) I (.bool (mayShapes c.shapes)) := by
  obtain ⟨v1, v2, v3, hrow, hc0⟩ := hc
  obtain ⟨hs1, hs2, hs3, hmain⟩ := hc0
  obtain ⟨A1, k1, rfl, hm1, hc1, hS1⟩ := hs1
  obtain ⟨A2, k2, rfl, hm2, hc2, hS2⟩ := hs2
  obtain ⟨A3, k3, rfl, hm3, hc3, hS3⟩ := hs3
  unfold Rg at hmain
  have hcc : CodeC I c (.slice A1 c.shapes.length k1) (.slice A2 c.fns.length k2) (.slice A3 c.list.length k3) := ⟨⟨A1, k1, rfl, hm1, hc1, hS1⟩, ⟨A2, k2, rfl, hm2, hc2, hS2⟩, ⟨A3, k3, rfl, hm3, hc3, hS3⟩, hmain⟩
  refine SpecV.intro Tryd.func43 rfl rfl fun w0 => ?_
  show WC _ _ _ _ [] [(0, _), (1, _)] _ _ _
  refine WC.seq ?_
  refine WC.region ?_
  refine WL.assign rfl rfl ?_
  refine WL.nil ?_
  refine WE.then_normal ?_
  refine WC.seq ?_
  refine WC.region ?_
  refine WL.fieldAddr rfl tF26_0_k rfl ?_
  refine WL.load_imm rfl tA22_k rfl (by first | exact hrow 0 _ rfl | exact hrow 1 _ rfl | exact hrow 2 _ rfl | exact hrow 3 _ rfl) ?_
  refine WL.callV okF44_k rfl rfl (mayShapes_spec c.shapes I _ hcc.s1) ?_
  refine WL.assign rfl rfl ?_
  refine WL.nil ?_
  refine WE.then_normal ?_
  refine WC.ret ?_
  refine WE.retV [3] rfl rfl rfl ?_
  rfl
theorem c21_spec (c : CodeD) (I : Mem) (b : Nat) (hc : CodeAt I b c) (i : Int) : SpecV Tryd.prog 46 ([] ++ [.int .i64 i] ++ [.pointer (some ⟨b, 0, none⟩)]) I (.bool (ok1 c)) := by
  obtain ⟨v1, v2, v3, hrow, hc0⟩ := hc
  obtain ⟨hs1, hs2, hs3, hmain⟩ := hc0
  obtain ⟨A1, k1, rfl, hm1, hc1, hS1⟩ := hs1
  obtain ⟨A2, k2, rfl, hm2, hc2, hS2⟩ := hs2
  obtain ⟨A3, k3, rfl, hm3, hc3, hS3⟩ := hs3
  unfold Rg at hmain
  refine SpecV.intro Tryd.func46 rfl rfl fun w0 => ?_
  show WC _ _ _ _ [] [(0, _), (1, _)] _ _ _
  refine WC.seq ?_
  refine WC.region ?_
  refine WL.assign rfl rfl ?_
  refine WL.nil ?_
  refine WE.then_normal ?_
  refine WC.seq ?_
  refine WC.region ?_
  refine WL.fieldAddr rfl tF26_1_k rfl ?_
  refine WL.load_imm rfl tA23_k rfl (by first | exact hrow 0 _ rfl | exact hrow 1 _ rfl | exact hrow 2 _ rfl | exact hrow 3 _ rfl) ?_
  refine WL.len_slice rfl tE23_k rfl ?_
  refine WL.arith rfl rfl rfl rfl ?_
  refine WL.move rfl rfl ?_
  refine WL.split 8 rfl (fun h1 => ?_) (fun h1 => ?_)
  · try simp at h1
    all_goals (
      refine WL.guard_yes rfl rfl ?_
      refine WL.fieldAddr rfl tF26_1_k rfl ?_
      refine WL.guard_yes rfl rfl ?_
      refine WL.load_imm rfl tA23_k rfl (by first | exact hrow 0 _ rfl | exact hrow 1 _ rfl | exact hrow 2 _ rfl | exact hrow 3 _ rfl) ?_
      refine WL.guard_yes rfl rfl ?_
      refine WL.len_slice rfl tE23_k rfl ?_
      refine WL.guard_yes rfl rfl ?_
      refine WL.arith rfl rfl rfl rfl ?_
      refine WL.pick_true rfl rfl rfl ?_
      refine WL.move rfl rfl ?_
      refine WL.split 14 rfl (fun h2 => ?_) (fun h2 => ?_)
      · try simp at h2
        all_goals (
          refine WL.guard_yes rfl rfl ?_
          refine WL.fieldAddr rfl tF26_3_k rfl ?_
          refine WL.guard_yes rfl rfl ?_
          refine WL.load_imm rfl tA3_k rfl (by first | exact hrow 0 _ rfl | exact hrow 1 _ rfl | exact hrow 2 _ rfl | exact hrow 3 _ rfl) ?_
          refine WL.guard_yes rfl rfl ?_
          refine WL.arith rfl rfl rfl rfl ?_
          refine WL.pick_true rfl rfl rfl ?_
          refine WL.move rfl rfl ?_
          refine WL.split 19 rfl (fun h3 => ?_) (fun h3 => ?_)
          · try simp at h3
            all_goals (
              refine WL.guard_yes rfl rfl ?_
              refine WL.fieldAddr rfl tF26_3_k rfl ?_
              refine WL.guard_yes rfl rfl ?_
              refine WL.load_imm rfl tA3_k rfl (by first | exact hrow 0 _ rfl | exact hrow 1 _ rfl | exact hrow 2 _ rfl | exact hrow 3 _ rfl) ?_
              refine WL.guard_yes rfl rfl ?_
              refine WL.fieldAddr rfl tF26_1_k rfl ?_
              refine WL.guard_yes rfl rfl ?_
              refine WL.load_imm rfl tA23_k rfl (by first | exact hrow 0 _ rfl | exact hrow 1 _ rfl | exact hrow 2 _ rfl | exact hrow 3 _ rfl) ?_
              refine WL.guard_yes rfl rfl ?_
              refine WL.len_slice rfl tE23_k rfl ?_
              refine WL.guard_yes rfl rfl ?_
              refine WL.arith rfl rfl rfl rfl ?_
              refine WL.pick_true rfl rfl rfl ?_
              refine WL.assign rfl rfl ?_
              refine WL.nil ?_
              refine WE.then_normal ?_
              refine WC.ret ?_
              refine WE.retV [3] rfl rfl rfl ?_
              first | (simp [tupleOf, ok1, *]; done) | (simp [tupleOf, ok1]; omega)
            )
          · try simp at h3
            all_goals (
              refine WL.guard_no rfl rfl rfl rfl ?_
              refine WL.guard_no rfl rfl rfl rfl ?_
              refine WL.guard_no rfl rfl rfl rfl ?_
              refine WL.guard_no rfl rfl rfl rfl ?_
              refine WL.guard_no rfl rfl rfl rfl ?_
              refine WL.guard_no rfl rfl rfl rfl ?_
              refine WL.pick_false rfl rfl rfl ?_
              refine WL.assign rfl rfl ?_
              refine WL.nil ?_
              refine WE.then_normal ?_
              refine WC.ret ?_
              refine WE.retV [3] rfl rfl rfl ?_
              first | (simp [tupleOf, ok1, *]; done) | (simp [tupleOf, ok1]; omega)
            )
        )
      · try simp at h2
        all_goals (
          refine WL.guard_no rfl rfl rfl rfl ?_
          refine WL.guard_no rfl rfl rfl rfl ?_
          refine WL.guard_no rfl rfl rfl rfl ?_
          refine WL.pick_false rfl rfl rfl ?_
          refine WL.move rfl rfl ?_
          refine WL.guard_no rfl rfl rfl rfl ?_
          refine WL.guard_no rfl rfl rfl rfl ?_
          refine WL.guard_no rfl rfl rfl rfl ?_
          refine WL.guard_no rfl rfl rfl rfl ?_
          refine WL.guard_no rfl rfl rfl rfl ?_
          refine WL.guard_no rfl rfl rfl rfl ?_
          refine WL.pick_false rfl rfl rfl ?_
          refine WL.assign rfl rfl ?_
          refine WL.nil ?_
          refine WE.then_normal ?_
          refine WC.ret ?_
          refine WE.retV [3] rfl rfl rfl ?_
          first | (simp [tupleOf, ok1, *]; done) | (simp [tupleOf, ok1]; omega)
        )
    )
  · try simp at h1
    all_goals (
      refine WL.guard_no rfl rfl rfl rfl ?_
      refine WL.guard_no rfl rfl rfl rfl ?_
      refine WL.guard_no rfl rfl rfl rfl ?_
      refine WL.guard_no rfl rfl rfl rfl ?_
      refine WL.pick_false rfl rfl rfl ?_
      refine WL.move rfl rfl ?_
      refine WL.guard_no rfl rfl rfl rfl ?_
      refine WL.guard_no rfl rfl rfl rfl ?_
      refine WL.guard_no rfl rfl rfl rfl ?_
      refine WL.pick_false rfl rfl rfl ?_
      refine WL.move rfl rfl ?_
      refine WL.guard_no rfl rfl rfl rfl ?_
      refine WL.guard_no rfl rfl rfl rfl ?_
      refine WL.guard_no rfl rfl rfl rfl ?_
      refine WL.guard_no rfl rfl rfl rfl ?_
      refine WL.guard_no rfl rfl rfl rfl ?_
      refine WL.guard_no rfl rfl rfl rfl ?_
      refine WL.pick_false rfl rfl rfl ?_
      refine WL.assign rfl rfl ?_
      refine WL.nil ?_
      refine WE.then_normal ?_
      refine WC.ret ?_
      refine WE.retV [3] rfl rfl rfl ?_
      first | (simp [tupleOf, ok1, *]; done) | (simp [tupleOf, ok1]; omega)
    )
theorem c31_spec (c : CodeD) (I : Mem) (b : Nat) (hc : CodeAt I b c) (i : Int) : SpecV Tryd.prog 48 ([] ++ [.int .i64 i] ++ [.pointer (some ⟨b, 0, none⟩)]) I (.bool (ok2 c)) := by
  obtain ⟨v1, v2, v3, hrow, hc0⟩ := hc
  obtain ⟨hs1, hs2, hs3, hmain⟩ := hc0
  obtain ⟨A1, k1, rfl, hm1, hc1, hS1⟩ := hs1
  obtain ⟨A2, k2, rfl, hm2, hc2, hS2⟩ := hs2
  obtain ⟨A3, k3, rfl, hm3, hc3, hS3⟩ := hs3
  unfold Rg at hmain
  refine SpecV.intro Tryd.func48 rfl rfl fun w0 => ?_
  show WC _ _ _ _ [] [(0, _), (1, _)] _ _ _
  refine WC.seq ?_
  refine WC.region ?_
  refine WL.assign rfl rfl ?_
  refine WL.nil ?_
  refine WE.then_normal ?_
  refine WC.seq ?_
  refine WC.region ?_
  refine WL.fieldAddr rfl tF26_2_k rfl ?_
  refine WL.load_imm rfl tA24_k rfl (by first | exact hrow 0 _ rfl | exact hrow 1 _ rfl | exact hrow 2 _ rfl | exact hrow 3 _ rfl) ?_
  refine WL.len_slice rfl tE24_k rfl ?_
  refine WL.arith rfl rfl rfl rfl ?_
  refine WL.move rfl rfl ?_
  refine WL.split 8 rfl (fun h1 => ?_) (fun h1 => ?_)
  · try simp at h1
    all_goals (
      refine WL.guard_yes rfl rfl ?_
      refine WL.fieldAddr rfl tF26_2_k rfl ?_
      refine WL.guard_yes rfl rfl ?_
      refine WL.load_imm rfl tA24_k rfl (by first | exact hrow 0 _ rfl | exact hrow 1 _ rfl | exact hrow 2 _ rfl | exact hrow 3 _ rfl) ?_
      refine WL.guard_yes rfl rfl ?_
      refine WL.len_slice rfl tE24_k rfl ?_
      refine WL.guard_yes rfl rfl ?_
      refine WL.arith rfl rfl rfl rfl ?_
      refine WL.pick_true rfl rfl rfl ?_
      refine WL.assign rfl rfl ?_
      refine WL.nil ?_
      refine WE.then_normal ?_
      refine WC.ret ?_
      refine WE.retV [3] rfl rfl rfl ?_
      first | (simp [tupleOf, ok2, *]; done) | (simp [tupleOf, ok2]; omega)
    )
  · try simp at h1
    all_goals (
      refine WL.guard_no rfl rfl rfl rfl ?_
      refine WL.guard_no rfl rfl rfl rfl ?_
      refine WL.guard_no rfl rfl rfl rfl ?_
      refine WL.guard_no rfl rfl rfl rfl ?_
      refine WL.pick_false rfl rfl rfl ?_
      refine WL.assign rfl rfl ?_
      refine WL.nil ?_
      refine WE.then_normal ?_
      refine WC.ret ?_
      refine WE.retV [3] rfl rfl rfl ?_
      first | (simp [tupleOf, ok2, *]; done) | (simp [tupleOf, ok2]; omega)
    )
theorem c1_spec (c : CodeD) (I : Mem) (b : Nat) (hc : CodeAt I b c) : SpecV Tryd.prog 41 ([] ++ [] ++ [.pointer (some ⟨b, 0, none⟩)]) I (.int .i64 (asks c 0)) := by
  refine SpecV.intro Tryd.func41 rfl rfl fun w0 => ?_
  show WC _ _ _ _ [] [(0, _)] _ _ _
  refine WC.seq ?_
  refine WC.region ?_
  refine WL.assign rfl rfl ?_
  refine WL.nil ?_
  refine WE.then_normal ?_
  refine WC.seq ?_
  refine WC.region ?_
  refine WL.makeFunc rfl rfl rfl ?_
  refine WL.callV okF42_k rfl rfl (firstV_spec (fun _ => mayShapes c.shapes) 1 I okF43_k (by omega) (fun k _ _ => c11_spec c I b hc k)) ?_
  refine WL.assign rfl rfl ?_
  refine WL.nil ?_
  refine WE.then_normal ?_
  refine WC.ret ?_
  refine WE.retV [1] rfl rfl rfl ?_
  rfl
theorem c2_spec (c : CodeD) (I : Mem) (b : Nat) (hc : CodeAt I b c) : SpecV Tryd.prog 45 ([] ++ [] ++ [.pointer (some ⟨b, 0, none⟩)]) I (.int .i64 (asks c 1)) := by
  refine SpecV.intro Tryd.func45 rfl rfl fun w0 => ?_
  show WC _ _ _ _ [] [(0, _)] _ _ _
  refine WC.seq ?_
  refine WC.region ?_
  refine WL.assign rfl rfl ?_
  refine WL.nil ?_
  refine WE.then_normal ?_
  refine WC.seq ?_
  refine WC.region ?_
  refine WL.makeFunc rfl rfl rfl ?_
  refine WL.callV okF42_k rfl rfl (firstV_spec (fun _ => ok1 c) 1 I okF46_k (by omega) (fun k _ _ => c21_spec c I b hc k)) ?_
  refine WL.assign rfl rfl ?_
  refine WL.nil ?_
  refine WE.then_normal ?_
  refine WC.ret ?_
  refine WE.retV [1] rfl rfl rfl ?_
  rfl
theorem c3_spec (c : CodeD) (I : Mem) (b : Nat) (hc : CodeAt I b c) : SpecV Tryd.prog 47 ([] ++ [] ++ [.pointer (some ⟨b, 0, none⟩)]) I (.int .i64 (asks c 2)) := by
  refine SpecV.intro Tryd.func47 rfl rfl fun w0 => ?_
  show WC _ _ _ _ [] [(0, _)] _ _ _
  refine WC.seq ?_
  refine WC.region ?_
  refine WL.assign rfl rfl ?_
  refine WL.nil ?_
  refine WE.then_normal ?_
  refine WC.seq ?_
  refine WC.region ?_
  refine WL.makeFunc rfl rfl rfl ?_
  refine WL.callV okF42_k rfl rfl (firstV_spec (fun _ => ok2 c) 1 I okF48_k (by omega) (fun k _ _ => c31_spec c I b hc k)) ?_
  refine WL.assign rfl rfl ?_
  refine WL.nil ?_
  refine WE.then_normal ?_
  refine WC.ret ?_
  refine WE.retV [1] rfl rfl rfl ?_
  rfl
theorem c41_spec (c : CodeD) (I : Mem) (b : Nat) (hc : CodeAt I b c) (bl k : Nat) (hk : k < c.fns.length) : Spec Tryd.prog 50 ([] ++ [.int .i64 (k : Int)] ++ [.pointer (some ⟨b, 0, none⟩), .pointer (some ⟨bl, 0, none⟩)]) I [(bl, .cells [.int .i64 (lastOf c k)].toArray 3 (0, 0))]
    (fun v I' C' => v = .bool (ok3 c k) ∧ I' = I ∧ C' = [(bl, .cells [.int .i64 (lastOf c (k + 1))].toArray 3 (0, 0))]) := by
  obtain ⟨v1, v2, v3, hrow, hc0⟩ := hc
  obtain ⟨hs1, hs2, hs3, hmain⟩ := hc0
  obtain ⟨A1, k1, rfl, hm1, hc1, hS1⟩ := hs1
  obtain ⟨A2, k2, rfl, hm2, hc2, hS2⟩ := hs2
  obtain ⟨A3, k3, rfl, hm3, hc3, hS3⟩ := hs3
  unfold Rg at hmain
  obtain ⟨f0, hf0⟩ : ∃ x, c.fns[k]? = some x := ⟨_, List.getElem?_eq_getElem hk⟩
  have hl1 : lastOf c (k + 1) = f0.begin_ := by rw [lastOf, if_neg (by omega), Nat.add_sub_cancel, hf0]
  obtain ⟨bf, of_, uf, rfl, hul, hrowf, rfl, hf1, hf2, hf3⟩ := hS2 k f0 hf0
  unfold Rg at hf1 hf2 hf3
  refine Spec.intro Tryd.func50 rfl rfl fun Γ => ?_
  show WC _ _ _ _ [] [(0, _), (1, _), (2, _)] _ _ _
  refine WC.seq ?_
  refine WC.region ?_
  refine WL.assign rfl rfl ?_
  refine WL.nil ?_
  refine WE.then_normal ?_
  refine WC.seq ?_
  refine WC.region ?_
  refine WL.fieldAddr rfl tF26_1_k rfl ?_
  refine WL.load_imm rfl tA23_k rfl (by first | exact hrow 0 _ rfl | exact hrow 1 _ rfl | exact hrow 2 _ rfl | exact hrow 3 _ rfl) ?_
  refine WL.move rfl rfl ?_
  refine WL.indexAddr rfl rfl tE23_k tS64_k rfl (by first | omega) ?_
  refine WL.load_imm_agg rfl tA64_k tS64_k rfl (by first | exact hrowf) (by first | rfl | assumption) ?_
  refine WL.alloc tZ64_k rfl rfl (fun b1 => ?_)
  refine WL.store 0 rfl rfl rfl rfl tS64_k rfl rfl rfl rfl rfl ?_
  refine WL.nil ?_
  refine WE.then_normal ?_
  refine WC.seq ?_
  refine WC.region ?_
  refine WL.cutV (X := Unit) [0, 1, 2, 4, 5, 7, 8, 9, 10, 11, 55, 56, 57] rfl (fun _ => [(6, .bool (ok3 c k))]) (fun _ => True) 44 rfl rfl ?_ (fun _ _ => ?_)
  · refine WL.fieldAddr rfl tF64_0_k rfl ?_
    refine WL.load_own 0 rfl rfl tA3_k rfl rfl ?_
    refine WL.load_own 1 rfl rfl tA3_k rfl rfl ?_
    refine WL.arith rfl rfl rfl rfl ?_
    refine WL.move rfl rfl ?_
    refine WL.split 16 rfl (fun h2 => ?_) (fun h2 => ?_)
    · try simp at h2
      all_goals (
        refine WL.guard_yes rfl rfl ?_
        refine WL.move rfl rfl ?_
        refine WL.guard_yes rfl rfl ?_
        refine WL.arith rfl rfl rfl rfl ?_
        refine WL.guard_yes rfl rfl ?_
        refine WL.move rfl rfl ?_
        refine WL.split 19 rfl (fun h3 => ?_) (fun h3 => ?_)
        · try simp at h3
          all_goals (
            refine WL.guard_no rfl rfl rfl rfl ?_
            refine WL.guard_no rfl rfl rfl rfl ?_
            refine WL.guard_no rfl rfl rfl rfl ?_
            refine WL.guard_yes rfl rfl ?_
            refine WL.pick_true rfl rfl rfl ?_
            refine WL.pick_true rfl rfl rfl ?_
            refine WL.move rfl rfl ?_
            refine WL.guard_yes rfl rfl ?_
            refine WL.fieldAddr rfl tF64_0_k rfl ?_
            refine WL.guard_yes rfl rfl ?_
            refine WL.load_own 0 rfl rfl tA3_k rfl rfl ?_
            refine WL.guard_yes rfl rfl ?_
            refine WL.fieldAddr rfl tF26_2_k rfl ?_
            refine WL.guard_yes rfl rfl ?_
            refine WL.load_imm rfl tA24_k rfl (by first | exact hrow 0 _ rfl | exact hrow 1 _ rfl | exact hrow 2 _ rfl | exact hrow 3 _ rfl) ?_
            refine WL.guard_yes rfl rfl ?_
            refine WL.len_slice rfl tE24_k rfl ?_
            refine WL.guard_yes rfl rfl ?_
            refine WL.arith rfl rfl rfl rfl ?_
            refine WL.pick_true rfl rfl rfl ?_
            refine WL.move rfl rfl ?_
            refine WL.split 33 rfl (fun h4 => ?_) (fun h4 => ?_)
            · try simp at h4
              all_goals (
                refine WL.guard_yes rfl rfl ?_
                refine WL.fieldAddr rfl tF64_1_k rfl ?_
                refine WL.guard_yes rfl rfl ?_
                refine WL.load_own 0 rfl rfl tA3_k rfl rfl ?_
                refine WL.guard_yes rfl rfl ?_
                refine WL.arith rfl rfl rfl rfl ?_
                refine WL.pick_true rfl rfl rfl ?_
                refine WL.move rfl rfl ?_
                refine WL.split 38 rfl (fun h5 => ?_) (fun h5 => ?_)
                · try simp at h5
                  all_goals (
                    refine WL.guard_yes rfl rfl ?_
                    refine WL.fieldAddr rfl tF64_1_k rfl ?_
                    refine WL.guard_yes rfl rfl ?_
                    refine WL.load_own 0 rfl rfl tA3_k rfl rfl ?_
                    refine WL.guard_yes rfl rfl ?_
                    refine WL.arith rfl rfl rfl rfl ?_
                    refine WL.pick_true rfl rfl rfl ?_
                    refine WL.move rfl rfl ?_
                    refine WL.split 43 rfl (fun h6 => ?_) (fun h6 => ?_)
                    · try simp at h6
                      all_goals (
                        refine WL.guard_yes rfl rfl ?_
                        refine WL.fieldAddr rfl tF64_2_k rfl ?_
                        refine WL.guard_yes rfl rfl ?_
                        refine WL.load_own 0 rfl rfl tA3_k rfl rfl ?_
                        refine WL.guard_yes rfl rfl ?_
                        refine WL.arith rfl rfl rfl rfl ?_
                        refine WL.pick_true rfl rfl rfl ?_
                        refine WL.move rfl rfl ?_
                        refine WL.split 48 rfl (fun h7 => ?_) (fun h7 => ?_)
                        · try simp at h7
                          all_goals (
                            refine WL.guard_yes rfl rfl ?_
                            refine WL.fieldAddr rfl tF64_2_k rfl ?_
                            refine WL.guard_yes rfl rfl ?_
                            refine WL.load_own 0 rfl rfl tA3_k rfl rfl ?_
                            refine WL.guard_yes rfl rfl ?_
                            refine WL.fieldAddr rfl tF64_1_k rfl ?_
                            refine WL.guard_yes rfl rfl ?_
                            refine WL.load_own 0 rfl rfl tA3_k rfl rfl ?_
                            refine WL.guard_yes rfl rfl ?_
                            refine WL.arith rfl rfl rfl rfl ?_
                            refine WL.pick_true rfl rfl rfl ?_
                            refine WL.assign rfl rfl ?_
                            refine WL.nil ?_
                            refine WE.midV () trivial ⟨congrArg (fun b => some (Value.bool b)) (by first | (simp [ok3, hf0, *]; done) | (simp [ok3, hf0]; omega) | (simp [ok3, hf0, *]; omega)), trivial⟩ (by repeat (first | exact trivial | refine ⟨rfl, ?_⟩))
                          )
                        · try simp at h7
                          all_goals (
                            refine WL.guard_no rfl rfl rfl rfl ?_
                            refine WL.guard_no rfl rfl rfl rfl ?_
                            refine WL.guard_no rfl rfl rfl rfl ?_
                            refine WL.guard_no rfl rfl rfl rfl ?_
                            refine WL.guard_no rfl rfl rfl rfl ?_
                            refine WL.pick_false rfl rfl rfl ?_
                            refine WL.assign rfl rfl ?_
                            refine WL.nil ?_
                            refine WE.midV () trivial ⟨congrArg (fun b => some (Value.bool b)) (by first | (simp [ok3, hf0, *]; done) | (simp [ok3, hf0]; omega) | (simp [ok3, hf0, *]; omega)), trivial⟩ (by repeat (first | exact trivial | refine ⟨rfl, ?_⟩))
                          )
                      )
                    · try simp at h6
                      all_goals (
                        refine WL.guard_no rfl rfl rfl rfl ?_
                        refine WL.guard_no rfl rfl rfl rfl ?_
                        refine WL.guard_no rfl rfl rfl rfl ?_
                        refine WL.pick_false rfl rfl rfl ?_
                        refine WL.move rfl rfl ?_
                        refine WL.guard_no rfl rfl rfl rfl ?_
                        refine WL.guard_no rfl rfl rfl rfl ?_
                        refine WL.guard_no rfl rfl rfl rfl ?_
                        refine WL.guard_no rfl rfl rfl rfl ?_
                        refine WL.guard_no rfl rfl rfl rfl ?_
                        refine WL.pick_false rfl rfl rfl ?_
                        refine WL.assign rfl rfl ?_
                        refine WL.nil ?_
                        refine WE.midV () trivial ⟨congrArg (fun b => some (Value.bool b)) (by first | (simp [ok3, hf0, *]; done) | (simp [ok3, hf0]; omega) | (simp [ok3, hf0, *]; omega)), trivial⟩ (by repeat (first | exact trivial | refine ⟨rfl, ?_⟩))
                      )
                  )
                · try simp at h5
                  all_goals (
                    refine WL.guard_no rfl rfl rfl rfl ?_
                    refine WL.guard_no rfl rfl rfl rfl ?_
                    refine WL.guard_no rfl rfl rfl rfl ?_
                    refine WL.pick_false rfl rfl rfl ?_
                    refine WL.move rfl rfl ?_
                    refine WL.guard_no rfl rfl rfl rfl ?_
                    refine WL.guard_no rfl rfl rfl rfl ?_
                    refine WL.guard_no rfl rfl rfl rfl ?_
                    refine WL.pick_false rfl rfl rfl ?_
                    refine WL.move rfl rfl ?_
                    refine WL.guard_no rfl rfl rfl rfl ?_
                    refine WL.guard_no rfl rfl rfl rfl ?_
                    refine WL.guard_no rfl rfl rfl rfl ?_
                    refine WL.guard_no rfl rfl rfl rfl ?_
                    refine WL.guard_no rfl rfl rfl rfl ?_
                    refine WL.pick_false rfl rfl rfl ?_
                    refine WL.assign rfl rfl ?_
                    refine WL.nil ?_
                    refine WE.midV () trivial ⟨congrArg (fun b => some (Value.bool b)) (by first | (simp [ok3, hf0, *]; done) | (simp [ok3, hf0]; omega) | (simp [ok3, hf0, *]; omega)), trivial⟩ (by repeat (first | exact trivial | refine ⟨rfl, ?_⟩))
                  )
              )
            · try simp at h4
              all_goals (
                refine WL.guard_no rfl rfl rfl rfl ?_
                refine WL.guard_no rfl rfl rfl rfl ?_
                refine WL.guard_no rfl rfl rfl rfl ?_
                refine WL.pick_false rfl rfl rfl ?_
                refine WL.move rfl rfl ?_
                refine WL.guard_no rfl rfl rfl rfl ?_
                refine WL.guard_no rfl rfl rfl rfl ?_
                refine WL.guard_no rfl rfl rfl rfl ?_
                refine WL.pick_false rfl rfl rfl ?_
                refine WL.move rfl rfl ?_
                refine WL.guard_no rfl rfl rfl rfl ?_
                refine WL.guard_no rfl rfl rfl rfl ?_
                refine WL.guard_no rfl rfl rfl rfl ?_
                refine WL.pick_false rfl rfl rfl ?_
                refine WL.move rfl rfl ?_
                refine WL.guard_no rfl rfl rfl rfl ?_
                refine WL.guard_no rfl rfl rfl rfl ?_
                refine WL.guard_no rfl rfl rfl rfl ?_
                refine WL.guard_no rfl rfl rfl rfl ?_
                refine WL.guard_no rfl rfl rfl rfl ?_
                refine WL.pick_false rfl rfl rfl ?_
                refine WL.assign rfl rfl ?_
                refine WL.nil ?_
                refine WE.midV () trivial ⟨congrArg (fun b => some (Value.bool b)) (by first | (simp [ok3, hf0, *]; done) | (simp [ok3, hf0]; omega) | (simp [ok3, hf0, *]; omega)), trivial⟩ (by repeat (first | exact trivial | refine ⟨rfl, ?_⟩))
              )
          )
        · try simp at h3
          all_goals (
            refine WL.guard_yes rfl rfl ?_
            refine WL.fieldAddr rfl tF64_0_k rfl ?_
            refine WL.guard_yes rfl rfl ?_
            refine WL.load_own 0 rfl rfl tA3_k rfl rfl ?_
            refine WL.guard_yes rfl rfl ?_
            refine WL.arith rfl rfl rfl rfl ?_
            refine WL.guard_yes rfl rfl ?_
            refine WL.pick_false rfl rfl rfl ?_
            refine WL.pick_true rfl rfl rfl ?_
            refine WL.move rfl rfl ?_
            refine WL.split 25 rfl (fun h8 => ?_) (fun h8 => ?_)
            · try simp at h8
              all_goals (
                refine WL.guard_yes rfl rfl ?_
                refine WL.fieldAddr rfl tF64_0_k rfl ?_
                refine WL.guard_yes rfl rfl ?_
                refine WL.load_own 0 rfl rfl tA3_k rfl rfl ?_
                refine WL.guard_yes rfl rfl ?_
                refine WL.fieldAddr rfl tF26_2_k rfl ?_
                refine WL.guard_yes rfl rfl ?_
                refine WL.load_imm rfl tA24_k rfl (by first | exact hrow 0 _ rfl | exact hrow 1 _ rfl | exact hrow 2 _ rfl | exact hrow 3 _ rfl) ?_
                refine WL.guard_yes rfl rfl ?_
                refine WL.len_slice rfl tE24_k rfl ?_
                refine WL.guard_yes rfl rfl ?_
                refine WL.arith rfl rfl rfl rfl ?_
                refine WL.pick_true rfl rfl rfl ?_
                refine WL.move rfl rfl ?_
                refine WL.split 33 rfl (fun h9 => ?_) (fun h9 => ?_)
                · try simp at h9
                  all_goals (
                    refine WL.guard_yes rfl rfl ?_
                    refine WL.fieldAddr rfl tF64_1_k rfl ?_
                    refine WL.guard_yes rfl rfl ?_
                    refine WL.load_own 0 rfl rfl tA3_k rfl rfl ?_
                    refine WL.guard_yes rfl rfl ?_
                    refine WL.arith rfl rfl rfl rfl ?_
                    refine WL.pick_true rfl rfl rfl ?_
                    refine WL.move rfl rfl ?_
                    refine WL.split 38 rfl (fun h10 => ?_) (fun h10 => ?_)
                    · try simp at h10
                      all_goals (
                        refine WL.guard_yes rfl rfl ?_
                        refine WL.fieldAddr rfl tF64_1_k rfl ?_
                        refine WL.guard_yes rfl rfl ?_
                        refine WL.load_own 0 rfl rfl tA3_k rfl rfl ?_
                        refine WL.guard_yes rfl rfl ?_
                        refine WL.arith rfl rfl rfl rfl ?_
                        refine WL.pick_true rfl rfl rfl ?_
                        refine WL.move rfl rfl ?_
                        refine WL.split 43 rfl (fun h11 => ?_) (fun h11 => ?_)
                        · try simp at h11
                          all_goals (
                            refine WL.guard_yes rfl rfl ?_
                            refine WL.fieldAddr rfl tF64_2_k rfl ?_
                            refine WL.guard_yes rfl rfl ?_
                            refine WL.load_own 0 rfl rfl tA3_k rfl rfl ?_
                            refine WL.guard_yes rfl rfl ?_
                            refine WL.arith rfl rfl rfl rfl ?_
                            refine WL.pick_true rfl rfl rfl ?_
                            refine WL.move rfl rfl ?_
                            refine WL.split 48 rfl (fun h12 => ?_) (fun h12 => ?_)
                            · try simp at h12
                              all_goals (
                                refine WL.guard_yes rfl rfl ?_
                                refine WL.fieldAddr rfl tF64_2_k rfl ?_
                                refine WL.guard_yes rfl rfl ?_
                                refine WL.load_own 0 rfl rfl tA3_k rfl rfl ?_
                                refine WL.guard_yes rfl rfl ?_
                                refine WL.fieldAddr rfl tF64_1_k rfl ?_
                                refine WL.guard_yes rfl rfl ?_
                                refine WL.load_own 0 rfl rfl tA3_k rfl rfl ?_
                                refine WL.guard_yes rfl rfl ?_
                                refine WL.arith rfl rfl rfl rfl ?_
                                refine WL.pick_true rfl rfl rfl ?_
                                refine WL.assign rfl rfl ?_
                                refine WL.nil ?_
                                refine WE.midV () trivial ⟨congrArg (fun b => some (Value.bool b)) (by first | (simp [ok3, hf0, *]; done) | (simp [ok3, hf0]; omega) | (simp [ok3, hf0, *]; omega)), trivial⟩ (by repeat (first | exact trivial | refine ⟨rfl, ?_⟩))
                              )
                            · try simp at h12
                              all_goals (
                                refine WL.guard_no rfl rfl rfl rfl ?_
                                refine WL.guard_no rfl rfl rfl rfl ?_
                                refine WL.guard_no rfl rfl rfl rfl ?_
                                refine WL.guard_no rfl rfl rfl rfl ?_
                                refine WL.guard_no rfl rfl rfl rfl ?_
                                refine WL.pick_false rfl rfl rfl ?_
                                refine WL.assign rfl rfl ?_
                                refine WL.nil ?_
                                refine WE.midV () trivial ⟨congrArg (fun b => some (Value.bool b)) (by first | (simp [ok3, hf0, *]; done) | (simp [ok3, hf0]; omega) | (simp [ok3, hf0, *]; omega)), trivial⟩ (by repeat (first | exact trivial | refine ⟨rfl, ?_⟩))
                              )
                          )
                        · try simp at h11
                          all_goals (
                            refine WL.guard_no rfl rfl rfl rfl ?_
                            refine WL.guard_no rfl rfl rfl rfl ?_
                            refine WL.guard_no rfl rfl rfl rfl ?_
                            refine WL.pick_false rfl rfl rfl ?_
                            refine WL.move rfl rfl ?_
                            refine WL.guard_no rfl rfl rfl rfl ?_
                            refine WL.guard_no rfl rfl rfl rfl ?_
                            refine WL.guard_no rfl rfl rfl rfl ?_
                            refine WL.guard_no rfl rfl rfl rfl ?_
                            refine WL.guard_no rfl rfl rfl rfl ?_
                            refine WL.pick_false rfl rfl rfl ?_
                            refine WL.assign rfl rfl ?_
                            refine WL.nil ?_
                            refine WE.midV () trivial ⟨congrArg (fun b => some (Value.bool b)) (by first | (simp [ok3, hf0, *]; done) | (simp [ok3, hf0]; omega) | (simp [ok3, hf0, *]; omega)), trivial⟩ (by repeat (first | exact trivial | refine ⟨rfl, ?_⟩))
                          )
                      )
                    · try simp at h10
                      all_goals (
                        refine WL.guard_no rfl rfl rfl rfl ?_
                        refine WL.guard_no rfl rfl rfl rfl ?_
                        refine WL.guard_no rfl rfl rfl rfl ?_
                        refine WL.pick_false rfl rfl rfl ?_
                        refine WL.move rfl rfl ?_
                        refine WL.guard_no rfl rfl rfl rfl ?_
                        refine WL.guard_no rfl rfl rfl rfl ?_
                        refine WL.guard_no rfl rfl rfl rfl ?_
                        refine WL.pick_false rfl rfl rfl ?_
                        refine WL.move rfl rfl ?_
                        refine WL.guard_no rfl rfl rfl rfl ?_
                        refine WL.guard_no rfl rfl rfl rfl ?_
                        refine WL.guard_no rfl rfl rfl rfl ?_
                        refine WL.guard_no rfl rfl rfl rfl ?_
                        refine WL.guard_no rfl rfl rfl rfl ?_
                        refine WL.pick_false rfl rfl rfl ?_
                        refine WL.assign rfl rfl ?_
                        refine WL.nil ?_
                        refine WE.midV () trivial ⟨congrArg (fun b => some (Value.bool b)) (by first | (simp [ok3, hf0, *]; done) | (simp [ok3, hf0]; omega) | (simp [ok3, hf0, *]; omega)), trivial⟩ (by repeat (first | exact trivial | refine ⟨rfl, ?_⟩))
                      )
                  )
                · try simp at h9
                  all_goals (
                    refine WL.guard_no rfl rfl rfl rfl ?_
                    refine WL.guard_no rfl rfl rfl rfl ?_
                    refine WL.guard_no rfl rfl rfl rfl ?_
                    refine WL.pick_false rfl rfl rfl ?_
                    refine WL.move rfl rfl ?_
                    refine WL.guard_no rfl rfl rfl rfl ?_
                    refine WL.guard_no rfl rfl rfl rfl ?_
                    refine WL.guard_no rfl rfl rfl rfl ?_
                    refine WL.pick_false rfl rfl rfl ?_
                    refine WL.move rfl rfl ?_
                    refine WL.guard_no rfl rfl rfl rfl ?_
                    refine WL.guard_no rfl rfl rfl rfl ?_
                    refine WL.guard_no rfl rfl rfl rfl ?_
                    refine WL.pick_false rfl rfl rfl ?_
                    refine WL.move rfl rfl ?_
                    refine WL.guard_no rfl rfl rfl rfl ?_
                    refine WL.guard_no rfl rfl rfl rfl ?_
                    refine WL.guard_no rfl rfl rfl rfl ?_
                    refine WL.guard_no rfl rfl rfl rfl ?_
                    refine WL.guard_no rfl rfl rfl rfl ?_
                    refine WL.pick_false rfl rfl rfl ?_
                    refine WL.assign rfl rfl ?_
                    refine WL.nil ?_
                    refine WE.midV () trivial ⟨congrArg (fun b => some (Value.bool b)) (by first | (simp [ok3, hf0, *]; done) | (simp [ok3, hf0]; omega) | (simp [ok3, hf0, *]; omega)), trivial⟩ (by repeat (first | exact trivial | refine ⟨rfl, ?_⟩))
                  )
              )
            · try simp at h8
              all_goals (
                refine WL.guard_no rfl rfl rfl rfl ?_
                refine WL.guard_no rfl rfl rfl rfl ?_
                refine WL.guard_no rfl rfl rfl rfl ?_
                refine WL.guard_no rfl rfl rfl rfl ?_
                refine WL.guard_no rfl rfl rfl rfl ?_
                refine WL.guard_no rfl rfl rfl rfl ?_
                refine WL.pick_false rfl rfl rfl ?_
                refine WL.move rfl rfl ?_
                refine WL.guard_no rfl rfl rfl rfl ?_
                refine WL.guard_no rfl rfl rfl rfl ?_
                refine WL.guard_no rfl rfl rfl rfl ?_
                refine WL.pick_false rfl rfl rfl ?_
                refine WL.move rfl rfl ?_
                refine WL.guard_no rfl rfl rfl rfl ?_
                refine WL.guard_no rfl rfl rfl rfl ?_
                refine WL.guard_no rfl rfl rfl rfl ?_
                refine WL.pick_false rfl rfl rfl ?_
                refine WL.move rfl rfl ?_
                refine WL.guard_no rfl rfl rfl rfl ?_
                refine WL.guard_no rfl rfl rfl rfl ?_
                refine WL.guard_no rfl rfl rfl rfl ?_
                refine WL.pick_false rfl rfl rfl ?_
                refine WL.move rfl rfl ?_
                refine WL.guard_no rfl rfl rfl rfl ?_
                refine WL.guard_no rfl rfl rfl rfl ?_
                refine WL.guard_no rfl rfl rfl rfl ?_
                refine WL.guard_no rfl rfl rfl rfl ?_
                refine WL.guard_no rfl rfl rfl rfl ?_
                refine WL.pick_false rfl rfl rfl ?_
                refine WL.assign rfl rfl ?_
                refine WL.nil ?_
                refine WE.midV () trivial ⟨congrArg (fun b => some (Value.bool b)) (by first | (simp [ok3, hf0, *]; done) | (simp [ok3, hf0]; omega) | (simp [ok3, hf0, *]; omega)), trivial⟩ (by repeat (first | exact trivial | refine ⟨rfl, ?_⟩))
              )
          )
      )
    · try simp at h2
      all_goals (
        refine WL.guard_no rfl rfl rfl rfl ?_
        refine WL.guard_no rfl rfl rfl rfl ?_
        refine WL.guard_no rfl rfl rfl rfl ?_
        refine WL.guard_undef rfl rfl rfl ?_
        refine WL.guard_undef rfl rfl rfl ?_
        refine WL.guard_undef rfl rfl rfl ?_
        refine WL.guard_no rfl rfl rfl rfl ?_
        refine WL.pick_false rfl rfl rfl ?_
        refine WL.move rfl rfl ?_
        refine WL.guard_no rfl rfl rfl rfl ?_
        refine WL.guard_no rfl rfl rfl rfl ?_
        refine WL.guard_no rfl rfl rfl rfl ?_
        refine WL.guard_no rfl rfl rfl rfl ?_
        refine WL.guard_no rfl rfl rfl rfl ?_
        refine WL.guard_no rfl rfl rfl rfl ?_
        refine WL.pick_false rfl rfl rfl ?_
        refine WL.move rfl rfl ?_
        refine WL.guard_no rfl rfl rfl rfl ?_
        refine WL.guard_no rfl rfl rfl rfl ?_
        refine WL.guard_no rfl rfl rfl rfl ?_
        refine WL.pick_false rfl rfl rfl ?_
        refine WL.move rfl rfl ?_
        refine WL.guard_no rfl rfl rfl rfl ?_
        refine WL.guard_no rfl rfl rfl rfl ?_
        refine WL.guard_no rfl rfl rfl rfl ?_
        refine WL.pick_false rfl rfl rfl ?_
        refine WL.move rfl rfl ?_
        refine WL.guard_no rfl rfl rfl rfl ?_
        refine WL.guard_no rfl rfl rfl rfl ?_
        refine WL.guard_no rfl rfl rfl rfl ?_
        refine WL.pick_false rfl rfl rfl ?_
        refine WL.move rfl rfl ?_
        refine WL.guard_no rfl rfl rfl rfl ?_
        refine WL.guard_no rfl rfl rfl rfl ?_
        refine WL.guard_no rfl rfl rfl rfl ?_
        refine WL.guard_no rfl rfl rfl rfl ?_
        refine WL.guard_no rfl rfl rfl rfl ?_
        refine WL.pick_false rfl rfl rfl ?_
        refine WL.assign rfl rfl ?_
        refine WL.nil ?_
        refine WE.midV () trivial ⟨congrArg (fun b => some (Value.bool b)) (by first | (simp [ok3, hf0, *]; done) | (simp [ok3, hf0]; omega) | (simp [ok3, hf0, *]; omega)), trivial⟩ (by repeat (first | exact trivial | refine ⟨rfl, ?_⟩))
      )
  · refine WL.nil ?_
    refine WE.then_normal ?_
    refine WC.seq ?_
    refine WC.region ?_
    refine WL.fieldAddr rfl tF64_0_k rfl ?_
    refine WL.load_own 0 rfl rfl tA3_k rfl rfl ?_
    refine WL.store 1 rfl rfl rfl rfl tS3_k rfl rfl rfl rfl rfl ?_
    refine WL.nil ?_
    refine WE.then_normal ?_
    refine WC.seq ?_
    refine WC.region ?_
    refine WL.move rfl rfl ?_
    refine WL.assign rfl rfl ?_
    refine WL.nil ?_
    refine WE.then_normal ?_
    refine WC.ret ?_
    refine WE.pick [1] rfl rfl ?_
    refine WE.retCr rfl (.cons (.tmp rfl) .nil) rfl ?_
    exact ⟨rfl, rfl, by rw [hl1]⟩
theorem c4_spec (c : CodeD) (I : Mem) (b : Nat) (hc : CodeAt I b c) : SpecV Tryd.prog 49 ([] ++ [] ++ [.pointer (some ⟨b, 0, none⟩)]) I (.int .i64 (asks c 3)) := by
  obtain ⟨v1, v2, v3, hrow, hc0⟩ := hc
  obtain ⟨hs1, hs2, hs3, hmain⟩ := hc0
  obtain ⟨A1, k1, rfl, hm1, hc1, hS1⟩ := hs1
  obtain ⟨A2, k2, rfl, hm2, hc2, hS2⟩ := hs2
  obtain ⟨A3, k3, rfl, hm3, hc3, hS3⟩ := hs3
  unfold Rg at hmain
  have hc : CodeAt I b c := ⟨_, _, _, hrow, ⟨⟨A1, k1, rfl, hm1, hc1, hS1⟩, ⟨A2, k2, rfl, hm2, hc2, hS2⟩, ⟨A3, k3, rfl, hm3, hc3, hS3⟩, hmain⟩⟩
  refine SpecV.intro Tryd.func49 rfl rfl fun w0 => ?_
  show WC _ _ _ _ [] [(0, _)] _ _ _
  refine WC.seq ?_
  refine WC.region ?_
  refine WL.assign rfl rfl ?_
  refine WL.nil ?_
  refine WE.then_normal ?_
  refine WC.seq ?_
  refine WC.region ?_
  refine WL.alloc tZ3_k rfl rfl (fun b1 => ?_)
  refine WL.store 0 rfl rfl rfl rfl tS3_k rfl rfl rfl rfl rfl ?_
  refine WL.nil ?_
  refine WE.then_normal ?_
  refine WC.seq ?_
  refine WC.region ?_
  refine WL.fieldAddr rfl tF26_1_k rfl ?_
  refine WL.load_imm rfl tA23_k rfl (by first | exact hrow 0 _ rfl | exact hrow 1 _ rfl | exact hrow 2 _ rfl | exact hrow 3 _ rfl) ?_
  refine WL.len_slice rfl tE23_k rfl ?_
  refine WL.makeFunc rfl rfl rfl ?_
  refine WL.call1 okF42_k rfl rfl (firstC_spec (ok3 c) c.fns.length I (fun k => [(b1, .cells [.int .i64 (lastOf c k)].toArray 3 (0, 0))]) (caps := [.pointer (some ⟨b, 0, none⟩), .pointer (some ⟨b1, 0, none⟩)]) okF50_k (by omega) (fun k hk _ => c41_spec c I b hc b1 k hk)) (fun v I1 C1 hI1 hv => ?_)
  subst hv
  refine WL.assign rfl rfl ?_
  refine WL.nil ?_
  refine WE.then_normal ?_
  refine WC.ret ?_
  refine WE.retV [1] rfl rfl rfl ?_
  rfl
theorem c51_spec (c : CodeD) (I : Mem) (b : Nat) (hc : CodeAt I b c) (hwf : WFc c) (hsp : SpTab 0 I) (k : Nat) (hk : k < c.list.length) : SpecV Tryd.prog 52 ([] ++ [.int .i64 (k : Int)] ++ [.pointer (some ⟨b, 0, none⟩)]) I (.bool (ok4 c k)) := by
  obtain ⟨v1, v2, v3, hrow, hc0⟩ := hc
  obtain ⟨hs1, hs2, hs3, hmain⟩ := hc0
  obtain ⟨A1, k1, rfl, hm1, hc1, hS1⟩ := hs1
  obtain ⟨A2, k2, rfl, hm2, hc2, hS2⟩ := hs2
  obtain ⟨A3, k3, rfl, hm3, hc3, hS3⟩ := hs3
  unfold Rg at hmain
  have hcc : CodeC I c (.slice A1 c.shapes.length k1) (.slice A2 c.fns.length k2) (.slice A3 c.list.length k3) := ⟨⟨A1, k1, rfl, hm1, hc1, hS1⟩, ⟨A2, k2, rfl, hm2, hc2, hS2⟩, ⟨A3, k3, rfl, hm3, hc3, hS3⟩, hmain⟩
  obtain ⟨x, hx⟩ : ∃ x, c.list[k]? = some x := ⟨_, List.getElem?_eq_getElem hk⟩
  obtain ⟨bi, oi, ui, rfl, hul, hrowi, hR⟩ := hS3 k x hx
  obtain ⟨ho0, ho1⟩ := hwf.of_rg (at_ := k) (by omega)
  obtain ⟨f0, hf0, hfb⟩ := hwf.fnOf ho0 ho1
  obtain ⟨he0, he1⟩ := hwf.endI_rg ho0
  have hl2 := hwf.l2; have hn32 := hwf.n32
  refine SpecV.intro Tryd.func52 rfl rfl fun w0 => ?_
  show WC _ _ _ _ [] [(0, _), (1, _)] _ _ _
  refine WC.seq ?_
  refine WC.region ?_
  refine WL.assign rfl rfl ?_
  refine WL.nil ?_
  refine WE.then_normal ?_
  refine WC.seq ?_
  refine WC.region_draw tMixed_k (by kernel_rfl) ?_
  refine WL.fieldAddr rfl tF26_2_k rfl ?_
  refine WL.load_imm rfl tA24_k rfl (by first | exact hrow 0 _ rfl | exact hrow 1 _ rfl | exact hrow 2 _ rfl | exact hrow 3 _ rfl) ?_
  refine WL.move rfl rfl ?_
  refine WL.indexAddr rfl rfl tE24_k tS75_k rfl (by first | omega) ?_
  refine WL.load_imm_agg rfl tA75_k tS75_k rfl (by first | exact hrowi | exact hrow) (by first | rfl | assumption) ?_
  refine WL.callV okF53_k rfl rfl (plain_spec x I hsp _ hR) ?_
  refine WL.move rfl rfl ?_
  refine WL.split 10 rfl (fun h1 => ?_) (fun h1 => ?_)
  · try simp at h1
    all_goals (
      refine WL.guard_yes rfl rfl ?_
      refine WL.load_imm_agg rfl tA26_k tS26_k rfl (by first | exact hrowi | exact hrow) (by first | rfl | assumption) ?_
      refine WL.guard_yes rfl rfl ?_
      refine WL.load_imm_agg rfl tA26_k tS26_k rfl (by first | exact hrowi | exact hrow) (by first | rfl | assumption) ?_
      refine WL.guard_yes rfl rfl ?_
      refine WL.move rfl rfl ?_
      refine WL.guard_yes rfl rfl ?_
      refine WL.callV okF55_k rfl rfl (of_spec c k I _ _ _ hcc (by omega) hwf.sorted (fun f hf => by obtain ⟨j, hj⟩ := List.getElem?_of_mem hf; have := hwf.fn j f hj; omega) (by omega)) ?_
      refine WL.guard_yes rfl rfl ?_
      refine WL.fieldAddr rfl tF26_2_k rfl ?_
      refine WL.guard_yes rfl rfl ?_
      refine WL.load_imm rfl tA24_k rfl (by first | exact hrow 0 _ rfl | exact hrow 1 _ rfl | exact hrow 2 _ rfl | exact hrow 3 _ rfl) ?_
      refine WL.guard_yes rfl rfl ?_
      refine WL.move rfl rfl ?_
      refine WL.guard_yes rfl rfl ?_
      refine WL.indexAddr rfl rfl tE24_k tS75_k rfl (by first | omega) ?_
      refine WL.guard_yes rfl rfl ?_
      refine WL.load_imm_agg rfl tA75_k tS75_k rfl (by first | exact hrowi | exact hrow) (by first | rfl | assumption) ?_
      refine WL.guard_yes rfl rfl ?_
      refine WL.callV okF54_k rfl rfl (within_spec c (ofI c k) x I _ _ _ _ hcc hR f0 ho0 hf0 hfb.2.2.1 (by omega) hn32 (by omega)) ?_
      refine WL.pick_true rfl rfl rfl ?_
      refine WL.assign rfl rfl ?_
      refine WL.nil ?_
      refine WE.then_normal ?_
      refine WC.ret ?_
      refine WE.retV [3] rfl rfl rfl ?_
      simp only [tupleOf, ok4, hx]
      simp [*]
    )
  · try simp at h1
    all_goals (
      refine WL.guard_no rfl rfl rfl rfl ?_
      refine WL.guard_no rfl rfl rfl rfl ?_
      refine WL.guard_no rfl rfl rfl rfl ?_
      refine WL.guard_no rfl rfl rfl rfl ?_
      refine WL.guard_no rfl rfl rfl rfl ?_
      refine WL.guard_no rfl rfl rfl rfl ?_
      refine WL.guard_no rfl rfl rfl rfl ?_
      refine WL.guard_no rfl rfl rfl rfl ?_
      refine WL.guard_no rfl rfl rfl rfl ?_
      refine WL.guard_no rfl rfl rfl rfl ?_
      refine WL.pick_false rfl rfl rfl ?_
      refine WL.assign rfl rfl ?_
      refine WL.nil ?_
      refine WE.then_normal ?_
      refine WC.ret ?_
      refine WE.retV [3] rfl rfl rfl ?_
      simp only [tupleOf, ok4, hx]
      simp [*]
    )
theorem c5_spec (c : CodeD) (I : Mem) (b : Nat) (hc : CodeAt I b c) (hwf : WFc c) (hsp : SpTab 0 I) : SpecV Tryd.prog 51 ([] ++ [] ++ [.pointer (some ⟨b, 0, none⟩)]) I (.int .i64 (asks c 4)) := by
  obtain ⟨v1, v2, v3, hrow, hc0⟩ := hc
  obtain ⟨hs1, hs2, hs3, hmain⟩ := hc0
  obtain ⟨A1, k1, rfl, hm1, hc1, hS1⟩ := hs1
  obtain ⟨A2, k2, rfl, hm2, hc2, hS2⟩ := hs2
  obtain ⟨A3, k3, rfl, hm3, hc3, hS3⟩ := hs3
  unfold Rg at hmain
  have hc : CodeAt I b c := ⟨_, _, _, hrow, ⟨⟨A1, k1, rfl, hm1, hc1, hS1⟩, ⟨A2, k2, rfl, hm2, hc2, hS2⟩, ⟨A3, k3, rfl, hm3, hc3, hS3⟩, hmain⟩⟩
  refine SpecV.intro Tryd.func51 rfl rfl fun w0 => ?_
  show WC _ _ _ _ [] [(0, _)] _ _ _
  refine WC.seq ?_
  refine WC.region ?_
  refine WL.assign rfl rfl ?_
  refine WL.nil ?_
  refine WE.then_normal ?_
  refine WC.seq ?_
  refine WC.region ?_
  refine WL.fieldAddr rfl tF26_2_k rfl ?_
  refine WL.load_imm rfl tA24_k rfl (by first | exact hrow 0 _ rfl | exact hrow 1 _ rfl | exact hrow 2 _ rfl | exact hrow 3 _ rfl) ?_
  refine WL.len_slice rfl tE24_k rfl ?_
  refine WL.makeFunc rfl rfl rfl ?_
  refine WL.callV okF42_k rfl rfl (firstV_spec (ok4 c) c.list.length I okF52_k (by omega) (fun k hk _ => c51_spec c I b hc hwf hsp k hk)) ?_
  refine WL.assign rfl rfl ?_
  refine WL.nil ?_
  refine WE.then_normal ?_
  refine WC.ret ?_
  refine WE.retV [1] rfl rfl rfl ?_
  rfl
theorem c61_spec (c : CodeD) (I : Mem) (b : Nat) (hc : CodeAt I b c) (hwf : WFc c) (k : Nat) (hk : k < c.fns.length) : SpecV Tryd.prog 57 ([] ++ [.int .i64 (k : Int)] ++ [.pointer (some ⟨b, 0, none⟩)]) I (.bool (ok5 c k)) := by
  obtain ⟨v1, v2, v3, hrow, hc0⟩ := hc
  obtain ⟨hs1, hs2, hs3, hmain⟩ := hc0
  obtain ⟨A1, k1, rfl, hm1, hc1, hS1⟩ := hs1
  obtain ⟨A2, k2, rfl, hm2, hc2, hS2⟩ := hs2
  obtain ⟨A3, k3, rfl, hm3, hc3, hS3⟩ := hs3
  unfold Rg at hmain
  have hcc : CodeC I c (.slice A1 c.shapes.length k1) (.slice A2 c.fns.length k2) (.slice A3 c.list.length k3) := ⟨⟨A1, k1, rfl, hm1, hc1, hS1⟩, ⟨A2, k2, rfl, hm2, hc2, hS2⟩, ⟨A3, k3, rfl, hm3, hc3, hS3⟩, hmain⟩
  obtain ⟨he0, he1⟩ := hwf.endI_rg (fn := k) (by omega)
  have hl2 := hwf.l2; have hn32 := hwf.n32
  obtain ⟨x, hx⟩ : ∃ x, c.list[(endI c k - 1).toNat]? = some x := ⟨_, List.getElem?_eq_getElem (by omega)⟩
  obtain ⟨bi, oi, ui, rfl, hul, hrowi, rfl, hR⟩ := hS3 _ x hx
  refine SpecV.intro Tryd.func57 rfl rfl fun w0 => ?_
  show WC _ _ _ _ [] [(0, _), (1, _)] _ _ _
  refine WC.seq ?_
  refine WC.region ?_
  refine WL.assign rfl rfl ?_
  refine WL.nil ?_
  refine WE.then_normal ?_
  refine WC.seq ?_
  refine WC.region_draw tMixed_k (by kernel_rfl) ?_
  refine WL.fieldAddr rfl tF26_2_k rfl ?_
  refine WL.load_imm rfl tA24_k rfl (by first | exact hrow 0 _ rfl | exact hrow 1 _ rfl | exact hrow 2 _ rfl | exact hrow 3 _ rfl | exact hrowi 0 _ rfl) ?_
  refine WL.load_imm_agg rfl tA26_k tS26_k rfl (by first | exact hrowi | exact hrow) (by first | rfl | assumption) ?_
  refine WL.move rfl rfl ?_
  refine WL.callV okF58_k rfl rfl (end_spec c k I _ _ _ hcc (by omega) (by omega)) ?_
  first | refine WL.sub rfl rfl (by omega) rfl ?_ | refine WL.arith rfl rfl rfl rfl ?_
  refine WL.indexAddr rfl rfl tE24_k tS75_k rfl (by first | omega) ?_
  refine WL.fieldAddr rfl tF75_0_k rfl ?_
  refine WL.load_imm rfl tA73_k rfl (by first | exact hrow 0 _ rfl | exact hrow 1 _ rfl | exact hrow 2 _ rfl | exact hrow 3 _ rfl | exact hrowi 0 _ rfl) ?_
  refine WL.assign rfl rfl ?_
  refine WL.nil ?_
  refine WE.then_normal ?_
  refine WC.seq ?_
  refine WC.region ?_
  refine WL.move rfl rfl ?_
  refine WL.arith rfl rfl rfl rfl ?_
  refine WL.move rfl rfl ?_
  refine WL.split 16 rfl (fun h1 => ?_) (fun h1 => ?_)
  · try simp at h1
    all_goals (
      refine WL.guard_no rfl rfl rfl rfl ?_
      refine WL.guard_no rfl rfl rfl rfl ?_
      refine WL.pick_true rfl rfl rfl ?_
      refine WL.assign rfl rfl ?_
      refine WL.nil ?_
      refine WE.then_normal ?_
      refine WC.ret ?_
      refine WE.retV [3] rfl rfl rfl ?_
      simp only [tupleOf, ok5, hx]
      first | (simp [*]; done) | rfl
    )
  · try simp at h1
    all_goals (
      refine WL.guard_yes rfl rfl ?_
      refine WL.move rfl rfl ?_
      refine WL.guard_yes rfl rfl ?_
      refine WL.arith rfl rfl rfl rfl ?_
      refine WL.pick_false rfl rfl rfl ?_
      refine WL.assign rfl rfl ?_
      refine WL.nil ?_
      refine WE.then_normal ?_
      refine WC.ret ?_
      refine WE.retV [3] rfl rfl rfl ?_
      simp only [tupleOf, ok5, hx]
      first | (simp [*]; done) | rfl
    )
theorem c6_spec (c : CodeD) (I : Mem) (b : Nat) (hc : CodeAt I b c) (hwf : WFc c) : SpecV Tryd.prog 56 ([] ++ [] ++ [.pointer (some ⟨b, 0, none⟩)]) I (.int .i64 (asks c 5)) := by
  obtain ⟨v1, v2, v3, hrow, hc0⟩ := hc
  obtain ⟨hs1, hs2, hs3, hmain⟩ := hc0
  obtain ⟨A1, k1, rfl, hm1, hc1, hS1⟩ := hs1
  obtain ⟨A2, k2, rfl, hm2, hc2, hS2⟩ := hs2
  obtain ⟨A3, k3, rfl, hm3, hc3, hS3⟩ := hs3
  unfold Rg at hmain
  have hc : CodeAt I b c := ⟨_, _, _, hrow, ⟨⟨A1, k1, rfl, hm1, hc1, hS1⟩, ⟨A2, k2, rfl, hm2, hc2, hS2⟩, ⟨A3, k3, rfl, hm3, hc3, hS3⟩, hmain⟩⟩
  refine SpecV.intro Tryd.func56 rfl rfl fun w0 => ?_
  show WC _ _ _ _ [] [(0, _)] _ _ _
  refine WC.seq ?_
  refine WC.region ?_
  refine WL.assign rfl rfl ?_
  refine WL.nil ?_
  refine WE.then_normal ?_
  refine WC.seq ?_
  refine WC.region ?_
  refine WL.fieldAddr rfl tF26_1_k rfl ?_
  refine WL.load_imm rfl tA23_k rfl (by first | exact hrow 0 _ rfl | exact hrow 1 _ rfl | exact hrow 2 _ rfl | exact hrow 3 _ rfl) ?_
  refine WL.len_slice rfl tE23_k rfl ?_
  refine WL.makeFunc rfl rfl rfl ?_
  refine WL.callV okF42_k rfl rfl (firstV_spec (ok5 c) c.fns.length I okF57_k (by omega) (fun k hk _ => c61_spec c I b hc hwf k hk)) ?_
  refine WL.assign rfl rfl ?_
  refine WL.nil ?_
  refine WE.then_normal ?_
  refine WC.ret ?_
  refine WE.retV [1] rfl rfl rfl ?_
  rfl
theorem check_spec (c : CodeD) (I : Mem) (v1 v2 v3 : Value) (hc : CodeC I c v1 v2 v3) (hsp : SpTab 0 I) : SpecV Tryd.prog 32 [.agg [v1, v2, v3, .int .i64 c.main].toArray] I (.tuple ((checkL c).map (Value.int .i64)).toArray) := by
  refine SpecV.intro Tryd.func32 rfl rfl fun w0 => ?_
  show WC _ _ _ _ [] [(0, _)] _ _ _
  refine WC.seq ?_
  refine WC.region ?_
  refine WL.box rfl rfl rfl (fun b1 => ?_)
  refine WL.assign rfl rfl ?_
  refine WL.assign rfl rfl ?_
  refine WL.assign rfl rfl ?_
  refine WL.nil ?_
  refine WE.then_normal ?_
  refine WC.seq ?_
  refine WC.region ?_
  refine WL.freeze' (fun I1 hI1 hb1 => ?_)
  have hc1 : CodeAt I1 b1 c := ⟨v1, v2, v3, Mem.row_of hb1, hc.mono hI1⟩
  have hsp1 := hsp.mono hI1
  refine WL.makeFunc rfl rfl rfl ?_
  refine WL.makeFunc rfl rfl rfl ?_
  refine WL.makeFunc rfl rfl rfl ?_
  refine WL.makeFunc rfl rfl rfl ?_
  refine WL.makeFunc rfl rfl rfl ?_
  refine WL.makeFunc rfl rfl rfl ?_
  refine WL.build_arr rfl tZ99_k tAr99_k tS46_k rfl rfl rfl ?_
  refine WL.alloc tZ99_k rfl rfl (fun b2 => ?_)
  refine WL.store 0 rfl rfl rfl rfl tS99_k rfl rfl rfl rfl rfl ?_
  refine WL.nil ?_
  refine WE.then_normal ?_
  refine WC.seq ?_
  refine WC.seq ?_
  refine WC.region ?_
  refine WL.load_own_agg 0 rfl rfl tA99_k tS99_k rfl rfl ?_
  refine WL.move rfl rfl ?_
  refine WL.nil ?_
  refine WE.then_normal ?_
  refine WC.block ?_
  refine WC.rounds 7 ?_
  refine WRo.step ?_
  refine WC.seq ?_
  refine WC.region ?_
  refine WL.arith rfl rfl rfl rfl ?_
  refine WL.nil ?_
  refine WE.then_normal ?_
  refine WC.seq ?_
  refine WC.cond_true rfl ?_
  refine WC.skip ?_
  refine WE.then_normal ?_
  refine WC.seq ?_
  refine WC.block ?_
  refine WC.seq ?_
  refine WC.region ?_
  refine WL.move rfl rfl ?_
  refine WL.index_arr rfl rfl tAr99_k tS46_k tA46_k rfl (by first | omega) rfl ?_
  refine WL.assign rfl rfl ?_
  refine WL.assign rfl rfl ?_
  refine WL.nil ?_
  refine WE.then_normal ?_
  refine WC.seq ?_
  refine WC.region ?_
  refine WL.move rfl rfl ?_
  refine WL.callVal okF41_k rfl rfl rfl (c1_spec c I1 _ hc1) ?_
  refine WL.assign rfl rfl ?_
  refine WL.nil ?_
  refine WE.then_normal ?_
  refine WC.seq ?_
  refine WC.region ?_
  refine WL.move rfl rfl ?_
  refine WL.arith rfl rfl rfl rfl ?_
  refine WL.nil ?_
  refine WE.then_normal ?_
  refine WC.condT rfl (fun h3 => ?_) (fun h3 => ?_)
  · try simp only [decide_eq_true_eq, decide_eq_false_iff_not, ge_iff_le, Int.not_le] at h3
    all_goals (
      refine WC.seq ?_
      refine WC.region ?_
      refine WL.move rfl rfl ?_
      first | refine WL.add rfl rfl (by omega) rfl ?_ | refine WL.arith rfl rfl rfl rfl ?_
      refine WL.move rfl rfl ?_
      refine WL.assign rfl rfl ?_
      refine WL.assign rfl rfl ?_
      refine WL.assign rfl rfl ?_
      refine WL.nil ?_
      refine WE.then_normal ?_
      refine WC.ret ?_
      refine WE.block_ret ?_
      refine WE.then_ret ?_
      refine WE.then_ret ?_
      refine WE.block_ret ?_
      refine WE.then_ret ?_
      refine WE.retV [2, 3, 4] rfl rfl rfl ?_
      show Value.tuple _ = _
      rw [checkL, if_pos (by omega)]
      rfl
    )
  · try simp only [decide_eq_true_eq, decide_eq_false_iff_not, ge_iff_le, Int.not_le] at h3
    all_goals (
      refine WC.skip ?_
      refine WE.block_normal ?_
      refine WE.then_normal ?_
      refine WC.region ?_
      first | refine WL.add rfl rfl (by omega) rfl ?_ | refine WL.arith rfl rfl rfl rfl ?_
      refine WL.move rfl rfl ?_
      refine WL.nil ?_
      refine WE.then_rounds ?_
      refine WRo.step ?_
      refine WC.seq ?_
      refine WC.region ?_
      refine WL.arith rfl rfl rfl rfl ?_
      refine WL.nil ?_
      refine WE.then_normal ?_
      refine WC.seq ?_
      refine WC.cond_true rfl ?_
      refine WC.skip ?_
      refine WE.then_normal ?_
      refine WC.seq ?_
      refine WC.block ?_
      refine WC.seq ?_
      refine WC.region ?_
      refine WL.move rfl rfl ?_
      refine WL.index_arr rfl rfl tAr99_k tS46_k tA46_k rfl (by first | omega) rfl ?_
      refine WL.assign rfl rfl ?_
      refine WL.assign rfl rfl ?_
      refine WL.nil ?_
      refine WE.then_normal ?_
      refine WC.seq ?_
      refine WC.region ?_
      refine WL.move rfl rfl ?_
      refine WL.callVal okF45_k rfl rfl rfl (c2_spec c I1 _ hc1) ?_
      refine WL.assign rfl rfl ?_
      refine WL.nil ?_
      refine WE.then_normal ?_
      refine WC.seq ?_
      refine WC.region ?_
      refine WL.move rfl rfl ?_
      refine WL.arith rfl rfl rfl rfl ?_
      refine WL.nil ?_
      refine WE.then_normal ?_
      refine WC.condT rfl (fun h4 => ?_) (fun h4 => ?_)
      · try simp only [decide_eq_true_eq, decide_eq_false_iff_not, ge_iff_le, Int.not_le] at h4
        all_goals (
          refine WC.seq ?_
          refine WC.region ?_
          refine WL.move rfl rfl ?_
          first | refine WL.add rfl rfl (by omega) rfl ?_ | refine WL.arith rfl rfl rfl rfl ?_
          refine WL.move rfl rfl ?_
          refine WL.assign rfl rfl ?_
          refine WL.assign rfl rfl ?_
          refine WL.assign rfl rfl ?_
          refine WL.nil ?_
          refine WE.then_normal ?_
          refine WC.ret ?_
          refine WE.block_ret ?_
          refine WE.then_ret ?_
          refine WE.then_ret ?_
          refine WE.block_ret ?_
          refine WE.then_ret ?_
          refine WE.retV [2, 3, 4] rfl rfl rfl ?_
          show Value.tuple _ = _
          rw [checkL, if_neg (by omega), if_pos (by omega)]
          rfl
        )
      · try simp only [decide_eq_true_eq, decide_eq_false_iff_not, ge_iff_le, Int.not_le] at h4
        all_goals (
          refine WC.skip ?_
          refine WE.block_normal ?_
          refine WE.then_normal ?_
          refine WC.region ?_
          first | refine WL.add rfl rfl (by omega) rfl ?_ | refine WL.arith rfl rfl rfl rfl ?_
          refine WL.move rfl rfl ?_
          refine WL.nil ?_
          refine WE.then_rounds ?_
          refine WRo.step ?_
          refine WC.seq ?_
          refine WC.region ?_
          refine WL.arith rfl rfl rfl rfl ?_
          refine WL.nil ?_
          refine WE.then_normal ?_
          refine WC.seq ?_
          refine WC.cond_true rfl ?_
          refine WC.skip ?_
          refine WE.then_normal ?_
          refine WC.seq ?_
          refine WC.block ?_
          refine WC.seq ?_
          refine WC.region ?_
          refine WL.move rfl rfl ?_
          refine WL.index_arr rfl rfl tAr99_k tS46_k tA46_k rfl (by first | omega) rfl ?_
          refine WL.assign rfl rfl ?_
          refine WL.assign rfl rfl ?_
          refine WL.nil ?_
          refine WE.then_normal ?_
          refine WC.seq ?_
          refine WC.region ?_
          refine WL.move rfl rfl ?_
          refine WL.callVal okF47_k rfl rfl rfl (c3_spec c I1 _ hc1) ?_
          refine WL.assign rfl rfl ?_
          refine WL.nil ?_
          refine WE.then_normal ?_
          refine WC.seq ?_
          refine WC.region ?_
          refine WL.move rfl rfl ?_
          refine WL.arith rfl rfl rfl rfl ?_
          refine WL.nil ?_
          refine WE.then_normal ?_
          refine WC.condT rfl (fun h5 => ?_) (fun h5 => ?_)
          · try simp only [decide_eq_true_eq, decide_eq_false_iff_not, ge_iff_le, Int.not_le] at h5
            all_goals (
              refine WC.seq ?_
              refine WC.region ?_
              refine WL.move rfl rfl ?_
              first | refine WL.add rfl rfl (by omega) rfl ?_ | refine WL.arith rfl rfl rfl rfl ?_
              refine WL.move rfl rfl ?_
              refine WL.assign rfl rfl ?_
              refine WL.assign rfl rfl ?_
              refine WL.assign rfl rfl ?_
              refine WL.nil ?_
              refine WE.then_normal ?_
              refine WC.ret ?_
              refine WE.block_ret ?_
              refine WE.then_ret ?_
              refine WE.then_ret ?_
              refine WE.block_ret ?_
              refine WE.then_ret ?_
              refine WE.retV [2, 3, 4] rfl rfl rfl ?_
              show Value.tuple _ = _
              rw [checkL, if_neg (by omega), if_neg (by omega), if_pos (by omega)]
              rfl
            )
          · try simp only [decide_eq_true_eq, decide_eq_false_iff_not, ge_iff_le, Int.not_le] at h5
            all_goals (
              refine WC.skip ?_
              refine WE.block_normal ?_
              refine WE.then_normal ?_
              refine WC.region ?_
              first | refine WL.add rfl rfl (by omega) rfl ?_ | refine WL.arith rfl rfl rfl rfl ?_
              refine WL.move rfl rfl ?_
              refine WL.nil ?_
              refine WE.then_rounds ?_
              refine WRo.step ?_
              refine WC.seq ?_
              refine WC.region ?_
              refine WL.arith rfl rfl rfl rfl ?_
              refine WL.nil ?_
              refine WE.then_normal ?_
              refine WC.seq ?_
              refine WC.cond_true rfl ?_
              refine WC.skip ?_
              refine WE.then_normal ?_
              refine WC.seq ?_
              refine WC.block ?_
              refine WC.seq ?_
              refine WC.region ?_
              refine WL.move rfl rfl ?_
              refine WL.index_arr rfl rfl tAr99_k tS46_k tA46_k rfl (by first | omega) rfl ?_
              refine WL.assign rfl rfl ?_
              refine WL.assign rfl rfl ?_
              refine WL.nil ?_
              refine WE.then_normal ?_
              refine WC.seq ?_
              refine WC.region ?_
              refine WL.move rfl rfl ?_
              refine WL.callVal okF49_k rfl rfl rfl (c4_spec c I1 _ hc1) ?_
              refine WL.assign rfl rfl ?_
              refine WL.nil ?_
              refine WE.then_normal ?_
              refine WC.seq ?_
              refine WC.region ?_
              refine WL.move rfl rfl ?_
              refine WL.arith rfl rfl rfl rfl ?_
              refine WL.nil ?_
              refine WE.then_normal ?_
              refine WC.condT rfl (fun h6 => ?_) (fun h6 => ?_)
              · try simp only [decide_eq_true_eq, decide_eq_false_iff_not, ge_iff_le, Int.not_le] at h6
                all_goals (
                  refine WC.seq ?_
                  refine WC.region ?_
                  refine WL.move rfl rfl ?_
                  first | refine WL.add rfl rfl (by omega) rfl ?_ | refine WL.arith rfl rfl rfl rfl ?_
                  refine WL.move rfl rfl ?_
                  refine WL.assign rfl rfl ?_
                  refine WL.assign rfl rfl ?_
                  refine WL.assign rfl rfl ?_
                  refine WL.nil ?_
                  refine WE.then_normal ?_
                  refine WC.ret ?_
                  refine WE.block_ret ?_
                  refine WE.then_ret ?_
                  refine WE.then_ret ?_
                  refine WE.block_ret ?_
                  refine WE.then_ret ?_
                  refine WE.retV [2, 3, 4] rfl rfl rfl ?_
                  show Value.tuple _ = _
                  rw [checkL, if_neg (by omega), if_neg (by omega), if_neg (by omega), if_pos (by omega)]
                  rfl
                )
              · try simp only [decide_eq_true_eq, decide_eq_false_iff_not, ge_iff_le, Int.not_le] at h6
                all_goals (
                  refine WC.skip ?_
                  refine WE.block_normal ?_
                  refine WE.then_normal ?_
                  refine WC.region ?_
                  first | refine WL.add rfl rfl (by omega) rfl ?_ | refine WL.arith rfl rfl rfl rfl ?_
                  refine WL.move rfl rfl ?_
                  refine WL.nil ?_
                  refine WE.then_rounds ?_
                  refine WRo.step ?_
                  refine WC.seq ?_
                  refine WC.region ?_
                  refine WL.arith rfl rfl rfl rfl ?_
                  refine WL.nil ?_
                  refine WE.then_normal ?_
                  refine WC.seq ?_
                  refine WC.cond_true rfl ?_
                  refine WC.skip ?_
                  refine WE.then_normal ?_
                  refine WC.seq ?_
                  refine WC.block ?_
                  refine WC.seq ?_
                  refine WC.region ?_
                  refine WL.move rfl rfl ?_
                  refine WL.index_arr rfl rfl tAr99_k tS46_k tA46_k rfl (by first | omega) rfl ?_
                  refine WL.assign rfl rfl ?_
                  refine WL.assign rfl rfl ?_
                  refine WL.nil ?_
                  refine WE.then_normal ?_
                  refine WC.seq ?_
                  refine WC.region ?_
                  refine WL.move rfl rfl ?_
                  have hwf : WFc c := WFc.asks (by assumption) (by assumption) (by assumption)
                  refine WL.callVal okF51_k rfl rfl rfl (c5_spec c I1 _ hc1 hwf hsp1) ?_
                  refine WL.assign rfl rfl ?_
                  refine WL.nil ?_
                  refine WE.then_normal ?_
                  refine WC.seq ?_
                  refine WC.region ?_
                  refine WL.move rfl rfl ?_
                  refine WL.arith rfl rfl rfl rfl ?_
                  refine WL.nil ?_
                  refine WE.then_normal ?_
                  refine WC.condT rfl (fun h7 => ?_) (fun h7 => ?_)
                  · try simp only [decide_eq_true_eq, decide_eq_false_iff_not, ge_iff_le, Int.not_le] at h7
                    all_goals (
                      refine WC.seq ?_
                      refine WC.region ?_
                      refine WL.move rfl rfl ?_
                      first | refine WL.add rfl rfl (by omega) rfl ?_ | refine WL.arith rfl rfl rfl rfl ?_
                      refine WL.move rfl rfl ?_
                      refine WL.assign rfl rfl ?_
                      refine WL.assign rfl rfl ?_
                      refine WL.assign rfl rfl ?_
                      refine WL.nil ?_
                      refine WE.then_normal ?_
                      refine WC.ret ?_
                      refine WE.block_ret ?_
                      refine WE.then_ret ?_
                      refine WE.then_ret ?_
                      refine WE.block_ret ?_
                      refine WE.then_ret ?_
                      refine WE.retV [2, 3, 4] rfl rfl rfl ?_
                      show Value.tuple _ = _
                      rw [checkL, if_neg (by omega), if_neg (by omega), if_neg (by omega), if_neg (by omega), if_pos (by omega)]
                      rfl
                    )
                  · try simp only [decide_eq_true_eq, decide_eq_false_iff_not, ge_iff_le, Int.not_le] at h7
                    all_goals (
                      refine WC.skip ?_
                      refine WE.block_normal ?_
                      refine WE.then_normal ?_
                      refine WC.region ?_
                      first | refine WL.add rfl rfl (by omega) rfl ?_ | refine WL.arith rfl rfl rfl rfl ?_
                      refine WL.move rfl rfl ?_
                      refine WL.nil ?_
                      refine WE.then_rounds ?_
                      refine WRo.step ?_
                      refine WC.seq ?_
                      refine WC.region ?_
                      refine WL.arith rfl rfl rfl rfl ?_
                      refine WL.nil ?_
                      refine WE.then_normal ?_
                      refine WC.seq ?_
                      refine WC.cond_true rfl ?_
                      refine WC.skip ?_
                      refine WE.then_normal ?_
                      refine WC.seq ?_
                      refine WC.block ?_
                      refine WC.seq ?_
                      refine WC.region ?_
                      refine WL.move rfl rfl ?_
                      refine WL.index_arr rfl rfl tAr99_k tS46_k tA46_k rfl (by first | omega) rfl ?_
                      refine WL.assign rfl rfl ?_
                      refine WL.assign rfl rfl ?_
                      refine WL.nil ?_
                      refine WE.then_normal ?_
                      refine WC.seq ?_
                      refine WC.region ?_
                      refine WL.move rfl rfl ?_
                      refine WL.callVal okF56_k rfl rfl rfl (c6_spec c I1 _ hc1 hwf) ?_
                      refine WL.assign rfl rfl ?_
                      refine WL.nil ?_
                      refine WE.then_normal ?_
                      refine WC.seq ?_
                      refine WC.region ?_
                      refine WL.move rfl rfl ?_
                      refine WL.arith rfl rfl rfl rfl ?_
                      refine WL.nil ?_
                      refine WE.then_normal ?_
                      refine WC.condT rfl (fun h8 => ?_) (fun h8 => ?_)
                      · try simp only [decide_eq_true_eq, decide_eq_false_iff_not, ge_iff_le, Int.not_le] at h8
                        all_goals (
                          refine WC.seq ?_
                          refine WC.region ?_
                          refine WL.move rfl rfl ?_
                          first | refine WL.add rfl rfl (by omega) rfl ?_ | refine WL.arith rfl rfl rfl rfl ?_
                          refine WL.move rfl rfl ?_
                          refine WL.assign rfl rfl ?_
                          refine WL.assign rfl rfl ?_
                          refine WL.assign rfl rfl ?_
                          refine WL.nil ?_
                          refine WE.then_normal ?_
                          refine WC.ret ?_
                          refine WE.block_ret ?_
                          refine WE.then_ret ?_
                          refine WE.then_ret ?_
                          refine WE.block_ret ?_
                          refine WE.then_ret ?_
                          refine WE.retV [2, 3, 4] rfl rfl rfl ?_
                          show Value.tuple _ = _
                          rw [checkL, if_neg (by omega), if_neg (by omega), if_neg (by omega), if_neg (by omega), if_neg (by omega), if_pos (by omega)]
                          rfl
                        )
                      · try simp only [decide_eq_true_eq, decide_eq_false_iff_not, ge_iff_le, Int.not_le] at h8
                        all_goals (
                          refine WC.skip ?_
                          refine WE.block_normal ?_
                          refine WE.then_normal ?_
                          refine WC.region ?_
                          first | refine WL.add rfl rfl (by omega) rfl ?_ | refine WL.arith rfl rfl rfl rfl ?_
                          refine WL.move rfl rfl ?_
                          refine WL.nil ?_
                          refine WE.then_rounds ?_
                          refine WRo.step ?_
                          refine WC.seq ?_
                          refine WC.region ?_
                          refine WL.arith rfl rfl rfl rfl ?_
                          refine WL.nil ?_
                          refine WE.then_normal ?_
                          refine WC.seq ?_
                          refine WC.cond_false rfl ?_
                          refine WC.exit ?_
                          refine WE.then_exit ?_
                          refine WE.then_exit ?_
                          refine WE.block_exit ?_
                          refine WE.then_normal ?_
                          refine WC.seq ?_
                          refine WC.region ?_
                          refine WL.assign rfl rfl ?_
                          refine WL.assign rfl rfl ?_
                          refine WL.assign rfl rfl ?_
                          refine WL.nil ?_
                          refine WE.then_normal ?_
                          refine WC.ret ?_
                          refine WE.retV [2, 3, 4] rfl rfl rfl ?_
                          show Value.tuple _ = _
                          rw [checkL, if_neg (by omega), if_neg (by omega), if_neg (by omega), if_neg (by omega), if_neg (by omega), if_neg (by omega)]
                          rfl
                        )
                    )
                )
            )
        )
    )
theorem mayC_spec (c : CodeD) (I : Mem) (v1 v2 v3 : Value) (hc : CodeC I c v1 v2 v3) (hsp : SpTab 0 I) : SpecV Tryd.prog 21 [.agg [v1, v2, v3, .int .i64 c.main].toArray] I (.bool (mayC c)) := by
  obtain ⟨a, b, e, hL, he⟩ := checkL_may c
  refine SpecV.intro Tryd.func21 rfl rfl fun w0 => ?_
  show WC _ _ _ _ [] [(0, _)] _ _ _
  refine WC.seq ?_
  refine WC.region ?_
  refine WL.box rfl rfl rfl (fun b1 => ?_)
  refine WL.assign rfl rfl ?_
  refine WL.nil ?_
  refine WE.then_normal ?_
  refine WC.seq ?_
  refine WC.region ?_
  refine WL.load_own_agg 0 rfl rfl tA26_k tS26_k rfl rfl ?_
  refine WL.callV okF32_k rfl rfl (check_spec c I _ _ _ hc hsp) ?_
  rw [hL]
  refine WL.move rfl rfl ?_
  refine WL.extract rfl rfl rfl ?_
  refine WL.extract rfl rfl rfl ?_
  refine WL.extract rfl rfl rfl ?_
  refine WL.assign rfl rfl ?_
  refine WL.assign rfl rfl ?_
  refine WL.assign rfl rfl ?_
  refine WL.nil ?_
  refine WE.then_normal ?_
  refine WC.seq ?_
  refine WC.region ?_
  refine WL.move rfl rfl ?_
  refine WL.arith rfl rfl rfl rfl ?_
  refine WL.assign rfl rfl ?_
  refine WL.nil ?_
  refine WE.then_normal ?_
  refine WC.ret ?_
  refine WE.retV [2] rfl rfl rfl ?_
  exact congrArg Value.bool he
end Go.Proofs.YtddkkmdbolgnlaaDoor.Fw
