/- A part of the proof: steps of the walk and laws that the claim's theorem rests on; each lemma states its own conditions. -/
import Derived.Test.YtddkkmdbolgnlaaDoorWalkD
import Derived.Test.YtddkkmdbolgnlaaDoorProg
set_option linter.unusedVariables false
set_option linter.unusedSimpArgs false
namespace Go.Proofs.YtddkkmdbolgnlaaDoor.Fw
open Go.Proofs
set_option maxRecDepth 100000
set_option linter.unusedVariables false
set_option linter.unusedSimpArgs false
theorem tE22_c : sliceT Tryd.prog 22 = some 52 := by kernel_rfl
theorem tS52_c : szT Tryd.prog 52 = some 2 := by kernel_rfl
theorem tA52_c : aggT Tryd.prog 52 = some true := by kernel_rfl
theorem okF85_c : okFn Tryd.prog 85 Tryd.f85 := ⟨Tryd.func85, by kernel_rfl, rfl⟩
theorem tF52_1_c : offT Tryd.prog 52 1 = some 1 := by kernel_rfl
theorem tA50_c : aggT Tryd.prog 50 = some false := by kernel_rfl
theorem tE50_c : sliceT Tryd.prog 50 = some 83 := by kernel_rfl
theorem tS83_c : szT Tryd.prog 83 = some 3 := by kernel_rfl
theorem tA83_c : aggT Tryd.prog 83 = some true := by kernel_rfl
theorem tZ83_c : zeroT Tryd.prog 83 = some (.agg [(.int .i64 0), (.int .i64 0), (.int .i64 0)].toArray) := by kernel_rfl
theorem tF83_0_c : offT Tryd.prog 83 0 = some 0 := by kernel_rfl
theorem tA3_c : aggT Tryd.prog 3 = some false := by kernel_rfl
theorem tF52_0_c : offT Tryd.prog 52 0 = some 0 := by kernel_rfl
theorem tF83_1_c : offT Tryd.prog 83 1 = some 1 := by kernel_rfl
theorem tF83_2_c : offT Tryd.prog 83 2 = some 2 := by kernel_rfl
theorem tA22_c : aggT Tryd.prog 22 = some false := by kernel_rfl
theorem okF71_c : okFn Tryd.prog 71 Tryd.f71 := ⟨Tryd.func71, by kernel_rfl, rfl⟩
theorem okF72_c : okFn Tryd.prog 72 Tryd.f72 := ⟨Tryd.func72, by kernel_rfl, rfl⟩
theorem okF70_c : okFn Tryd.prog 70 Tryd.f70 := ⟨Tryd.func70, by kernel_rfl, rfl⟩
theorem class_spec (n : Int) (I : Mem) : SpecV Tryd.prog 71 [.int .i64 n] I (.tuple [.int .i64 (classP n).1, .int .i64 (classP n).2].toArray) := by
  refine SpecV.intro Tryd.func71 rfl rfl fun w0 => ?_
  show WC _ _ _ _ [] [(0, _)] _ _ _
  refine WC.seq ?_
  refine WC.region ?_
  refine WL.assign rfl rfl ?_
  refine WL.assign rfl rfl ?_
  refine WL.nil ?_
  refine WE.then_normal ?_
  refine WC.seq ?_
  refine WC.seq ?_
  refine WC.region ?_
  refine WL.move rfl rfl ?_
  refine WL.nil ?_
  refine WE.then_normal ?_
  refine WC.block ?_
  refine WC.loopV (X := Nat) [0] rfl (fun k => [(5, .int .i64 (k : Int))]) (fun k => k ≤ 5 ∧ ∀ c, c < k → ¬ (1 ≤ n ∧ n ≤ (2 : Int) ^ c)) (fun k => 5 - k) 0 (⟨by omega, fun c h => absurd h (Nat.not_lt_zero _)⟩) ⟨rfl, trivial⟩ (fun k hinv => ?_)
  obtain ⟨hk, hinv⟩ := hinv
  refine WC.seq ?_
  refine WC.region ?_
  refine WL.arith rfl rfl rfl rfl ?_
  refine WL.nil ?_
  refine WE.then_normal ?_
  refine WC.seq ?_
  refine WC.condT rfl (fun h1 => ?_) (fun h1 => ?_)
  · try simp only [decide_eq_true_eq, decide_eq_false_iff_not, beq_iff_eq, bne_iff_ne, ne_eq, beq_eq_false_iff_ne, bne_eq_false_iff_eq, Bool.not_eq_true', Bool.not_eq_false', gt_iff_lt, ge_iff_le] at h1
    all_goals (
      refine WC.skip ?_
      refine WE.then_normal ?_
      refine WC.seq ?_
      refine WC.block ?_
      refine WC.seq ?_
      refine WC.region ?_
      refine WL.move rfl rfl ?_
      refine WL.assign rfl rfl ?_
      refine WL.nil ?_
      refine WE.then_normal ?_
      refine WC.seq ?_
      refine WC.region ?_
      refine WL.move rfl rfl ?_
      refine WL.arith rfl rfl rfl rfl ?_
      refine WL.move rfl rfl ?_
      refine WL.split 10 rfl (fun h2 => ?_) (fun h2 => ?_)
      · try simp only [decide_eq_true_eq, decide_eq_false_iff_not, beq_iff_eq, bne_iff_ne, ne_eq, beq_eq_false_iff_ne, bne_eq_false_iff_eq, Bool.not_eq_true', Bool.not_eq_false', gt_iff_lt, ge_iff_le] at h2
        all_goals (
          refine WL.guard_yes rfl rfl ?_
          refine WL.move rfl rfl ?_
          refine WL.guard_yes rfl rfl ?_
          refine WL.move rfl rfl ?_
          refine WL.guard_yes rfl rfl ?_
          refine WL.shl_one rfl rfl rfl (by omega) ?_
          refine WL.guard_yes rfl rfl ?_
          refine WL.arith rfl rfl rfl rfl ?_
          refine WL.pick_true rfl rfl rfl ?_
          refine WL.nil ?_
          refine WE.then_normal ?_
          refine WC.condT rfl (fun h3 => ?_) (fun h3 => ?_)
          · try simp only [decide_eq_true_eq, decide_eq_false_iff_not, beq_iff_eq, bne_iff_ne, ne_eq, beq_eq_false_iff_ne, bne_eq_false_iff_eq, Bool.not_eq_true', Bool.not_eq_false', gt_iff_lt, ge_iff_le] at h3
            all_goals (
              refine WC.seq ?_
              refine WC.region ?_
              refine WL.move rfl rfl ?_
              refine WL.assign rfl rfl ?_
              refine WL.assign rfl rfl ?_
              refine WL.nil ?_
              refine WE.then_normal ?_
              refine WC.ret ?_
              refine WE.block_ret ?_
              refine WE.then_ret ?_
              refine WE.then_ret ?_
              refine WE.block_ret ?_
              refine WE.then_ret ?_
              refine WE.retV [2, 3] rfl rfl rfl ?_
              first
                | (have h1 : (1 : Int) ≤ n := by omega
                   have hk5 : k < 5 := by omega
                   have e := hinv 0; have e1 := hinv 1; have e2 := hinv 2; have e3 := hinv 3; have e4 := hinv 4
                   simp only [tupleOf, classP]
                   obtain rfl | rfl | rfl | rfl | rfl : k = 0 ∨ k = 1 ∨ k = 2 ∨ k = 3 ∨ k = 4 := by omega
                   all_goals (simp at *; (repeat' split) <;> first | rfl | omega))
                | (have hk5 : k = 5 := by omega
                   subst hk5
                   have e := hinv 0 (by omega); have e1 := hinv 1 (by omega); have e2 := hinv 2 (by omega); have e3 := hinv 3 (by omega); have e4 := hinv 4 (by omega)
                   simp at e e1 e2 e3 e4
                   simp only [tupleOf, classP]
                   (repeat' split) <;> first | rfl | omega)
            )
          · try simp only [decide_eq_true_eq, decide_eq_false_iff_not, beq_iff_eq, bne_iff_ne, ne_eq, beq_eq_false_iff_ne, bne_eq_false_iff_eq, Bool.not_eq_true', Bool.not_eq_false', gt_iff_lt, ge_iff_le] at h3
            all_goals (
              refine WC.skip ?_
              refine WE.block_normal ?_
              refine WE.then_normal ?_
              refine WC.region ?_
              first | refine WL.add rfl rfl (by omega) rfl ?_ | refine WL.arith rfl rfl rfl rfl ?_
              refine WL.move rfl rfl ?_
              refine WL.nil ?_
              refine WE.backV (k + 1) (⟨by omega, fun c hc => by
                rcases Nat.lt_succ_iff_lt_or_eq.1 hc with h | h
                · exact hinv c h
                · subst h; rintro ⟨ha, hb⟩; first | omega | exact absurd hb ‹_›⟩) (by omega) ⟨rfl, trivial⟩ (by repeat (first | exact trivial | refine ⟨rfl, ?_⟩))
            )
        )
      · try simp only [decide_eq_true_eq, decide_eq_false_iff_not, beq_iff_eq, bne_iff_ne, ne_eq, beq_eq_false_iff_ne, bne_eq_false_iff_eq, Bool.not_eq_true', Bool.not_eq_false', gt_iff_lt, ge_iff_le] at h2
        all_goals (
          refine WL.guard_no rfl rfl rfl rfl ?_
          refine WL.guard_no rfl rfl rfl rfl ?_
          refine WL.guard_no rfl rfl rfl rfl ?_
          refine WL.guard_no rfl rfl rfl rfl ?_
          refine WL.pick_false rfl rfl rfl ?_
          refine WL.nil ?_
          refine WE.then_normal ?_
          refine WC.cond_false rfl ?_
          refine WC.skip ?_
          refine WE.block_normal ?_
          refine WE.then_normal ?_
          refine WC.region ?_
          first | refine WL.add rfl rfl (by omega) rfl ?_ | refine WL.arith rfl rfl rfl rfl ?_
          refine WL.move rfl rfl ?_
          refine WL.nil ?_
          refine WE.backV (k + 1) (⟨by omega, fun c hc => by
            rcases Nat.lt_succ_iff_lt_or_eq.1 hc with h | h
            · exact hinv c h
            · subst h; rintro ⟨ha, hb⟩; first | omega | exact absurd hb ‹_›⟩) (by omega) ⟨rfl, trivial⟩ (by repeat (first | exact trivial | refine ⟨rfl, ?_⟩))
        )
    )
  · try simp only [decide_eq_true_eq, decide_eq_false_iff_not, beq_iff_eq, bne_iff_ne, ne_eq, beq_eq_false_iff_ne, bne_eq_false_iff_eq, Bool.not_eq_true', Bool.not_eq_false', gt_iff_lt, ge_iff_le] at h1
    all_goals (
      refine WC.exit ?_
      refine WE.then_exit ?_
      refine WE.then_exit ?_
      refine WE.block_exit ?_
      refine WE.then_normal ?_
      refine WC.seq ?_
      refine WC.region ?_
      refine WL.assign rfl rfl ?_
      refine WL.assign rfl rfl ?_
      refine WL.nil ?_
      refine WE.then_normal ?_
      refine WC.ret ?_
      refine WE.retV [2, 3] rfl rfl rfl ?_
      first
        | (have h1 : (1 : Int) ≤ n := by omega
           have hk5 : k < 5 := by omega
           have e := hinv 0; have e1 := hinv 1; have e2 := hinv 2; have e3 := hinv 3; have e4 := hinv 4
           simp only [tupleOf, classP]
           obtain rfl | rfl | rfl | rfl | rfl : k = 0 ∨ k = 1 ∨ k = 2 ∨ k = 3 ∨ k = 4 := by omega
           all_goals (simp at *; (repeat' split) <;> first | rfl | omega))
        | (have hk5 : k = 5 := by omega
           subst hk5
           have e := hinv 0 (by omega); have e1 := hinv 1 (by omega); have e2 := hinv 2 (by omega); have e3 := hinv 3 (by omega); have e4 := hinv 4 (by omega)
           simp at e e1 e2 e3 e4
           simp only [tupleOf, classP]
           (repeat' split) <;> first | rfl | omega)
    )
theorem indexFunc_shape {α : Type} {R : Mem → α → List Value → Prop} {p : α → Bool} {f : FuncId} {fn : Func} {caps : List Value} (hok : okFn Tryd.prog f fn) (I : Mem) (xs : List α) (v : Value) (hv : SlV R 2 I xs v)
    (hp : ∀ x vs, R I x vs → x ∈ xs → SpecV Tryd.prog f ([] ++ [.agg vs.toArray] ++ caps) I (.bool (p x))) :
    SpecV Tryd.prog 85 [v, .func (.func f) [].toArray caps.toArray] I (.int .i64 (idx p xs 0)) := by
  obtain ⟨A, cap, rfl, hm, hcap, hS⟩ := hv
  refine SpecV.intro Tryd.func85 rfl rfl fun w0 => ?_
  show WC _ _ _ _ [] [(0, _), (1, _)] _ _ _
  refine WC.seq ?_
  refine WC.region ?_
  refine WL.assign rfl rfl ?_
  refine WL.nil ?_
  refine WE.then_normal ?_
  refine WC.seq ?_
  refine WC.seq ?_
  refine WC.region ?_
  refine WL.move rfl rfl ?_
  refine WL.len_slice rfl tE22_c rfl ?_
  refine WL.move rfl rfl ?_
  refine WL.nil ?_
  refine WE.then_normal ?_
  refine WC.block ?_
  refine WC.loopV (X := Nat) [0, 1, 7] rfl (fun k => [(8, .int .i64 (k : Int))]) (fun k => k ≤ xs.length ∧ ∀ i x, i < k → xs[i]? = some x → p x = false) (fun k => xs.length - k) 0 (⟨Nat.zero_le _, fun i x h => absurd h (Nat.not_lt_zero _)⟩) ⟨rfl, trivial⟩ (fun k hinv => ?_)
  obtain ⟨hk, hinv⟩ := hinv
  refine WC.seq ?_
  refine WC.region ?_
  refine WL.arith rfl rfl rfl rfl ?_
  refine WL.nil ?_
  refine WE.then_normal ?_
  refine WC.seq ?_
  refine WC.condT rfl (fun h1 => ?_) (fun h1 => ?_)
  · try simp only [decide_eq_true_eq, decide_eq_false_iff_not, beq_iff_eq, bne_iff_ne, ne_eq, beq_eq_false_iff_ne, bne_eq_false_iff_eq, Bool.not_eq_true', Bool.not_eq_false', gt_iff_lt, ge_iff_le] at h1
    all_goals (
      refine WC.skip ?_
      refine WE.then_normal ?_
      refine WC.seq ?_
      refine WC.block ?_
      refine WC.seq ?_
      refine WC.region ?_
      have hlt : k < xs.length := by omega
      obtain ⟨x, hxk⟩ : ∃ x, xs[k]? = some x := ⟨_, List.getElem?_eq_getElem hlt⟩
      obtain ⟨b, off, vs, rfl, hvl, hrow, hR⟩ := hS k x hxk
      refine WL.move rfl rfl ?_
      refine WL.assign rfl rfl ?_
      refine WL.nil ?_
      refine WE.then_normal ?_
      refine WC.seq ?_
      refine WC.region ?_
      refine WL.move rfl rfl ?_
      refine WL.move rfl rfl ?_
      refine WL.move rfl rfl ?_
      refine WL.indexAddr rfl rfl tE22_c tS52_c rfl (by first | omega) ?_
      refine WL.load_imm_agg rfl tA52_c tS52_c rfl (by first | exact hrow) (by first | rfl | assumption) ?_
      refine WL.callVal hok rfl rfl rfl (hp x vs hR (List.mem_of_getElem? hxk)) ?_
      refine WL.nil ?_
      refine WE.then_normal ?_
      refine WC.condT rfl (fun h2 => ?_) (fun h2 => ?_)
      · try simp only [decide_eq_true_eq, decide_eq_false_iff_not, beq_iff_eq, bne_iff_ne, ne_eq, beq_eq_false_iff_ne, bne_eq_false_iff_eq, Bool.not_eq_true', Bool.not_eq_false', gt_iff_lt, ge_iff_le] at h2
        all_goals (
          refine WC.seq ?_
          refine WC.region ?_
          refine WL.move rfl rfl ?_
          refine WL.assign rfl rfl ?_
          refine WL.nil ?_
          refine WE.then_normal ?_
          refine WC.ret ?_
          refine WE.block_ret ?_
          refine WE.then_ret ?_
          refine WE.then_ret ?_
          refine WE.block_ret ?_
          refine WE.then_ret ?_
          refine WE.retV [4] rfl rfl rfl ?_
          first | (rw [idx_hit p xs k hinv hxk ‹_›]; rfl) | (rw [idx_miss p xs (fun i x hi hx => hinv i x (by omega) hx)]; rfl)
        )
      · try simp only [decide_eq_true_eq, decide_eq_false_iff_not, beq_iff_eq, bne_iff_ne, ne_eq, beq_eq_false_iff_ne, bne_eq_false_iff_eq, Bool.not_eq_true', Bool.not_eq_false', gt_iff_lt, ge_iff_le] at h2
        all_goals (
          refine WC.skip ?_
          refine WE.block_normal ?_
          refine WE.then_normal ?_
          refine WC.region ?_
          first | refine WL.add rfl rfl (by omega) rfl ?_ | refine WL.arith rfl rfl rfl rfl ?_
          refine WL.move rfl rfl ?_
          refine WL.nil ?_
          refine WE.backV (k + 1) (⟨by omega, fun i x hi hx => by
            rcases Nat.lt_succ_iff_lt_or_eq.1 hi with h | h
            · exact hinv i x h hx
            · subst h; rw [hxk] at hx; injection hx with hx; subst hx; assumption⟩) (by omega) ⟨rfl, trivial⟩ (by repeat (first | exact trivial | refine ⟨rfl, ?_⟩))
        )
    )
  · try simp only [decide_eq_true_eq, decide_eq_false_iff_not, beq_iff_eq, bne_iff_ne, ne_eq, beq_eq_false_iff_ne, bne_eq_false_iff_eq, Bool.not_eq_true', Bool.not_eq_false', gt_iff_lt, ge_iff_le] at h1
    all_goals (
      refine WC.exit ?_
      refine WE.then_exit ?_
      refine WE.then_exit ?_
      refine WE.block_exit ?_
      refine WE.then_normal ?_
      refine WC.seq ?_
      refine WC.region ?_
      refine WL.assign rfl rfl ?_
      refine WL.nil ?_
      refine WE.then_normal ?_
      refine WC.ret ?_
      refine WE.retV [4] rfl rfl rfl ?_
      first | (rw [idx_hit p xs k hinv hxk ‹_›]; rfl) | (rw [idx_miss p xs (fun i x hi hx => hinv i x (by omega) hx)]; rfl)
    )
theorem containsFunc_shape {α : Type} {R : Mem → α → List Value → Prop} {p : α → Bool} {f : FuncId} {fn : Func} {caps : List Value} (hok : okFn Tryd.prog f fn) (I : Mem) (xs : List α) (v : Value) (hv : SlV R 2 I xs v)
    (hp : ∀ x vs, R I x vs → x ∈ xs → SpecV Tryd.prog f ([] ++ [.agg vs.toArray] ++ caps) I (.bool (p x))) :
    SpecV Tryd.prog 72 [v, .func (.func f) [].toArray caps.toArray] I (.bool (xs.any p)) := by
  refine SpecV.intro Tryd.func72 rfl rfl fun w0 => ?_
  show WC _ _ _ _ [] [(0, _), (1, _)] _ _ _
  refine WC.seq ?_
  refine WC.region ?_
  refine WL.assign rfl rfl ?_
  refine WL.nil ?_
  refine WE.then_normal ?_
  refine WC.seq ?_
  refine WC.region ?_
  refine WL.move rfl rfl ?_
  refine WL.move rfl rfl ?_
  refine WL.callV okF85_c rfl rfl (indexFunc_shape hok I xs v hv hp) ?_
  refine WL.arith rfl rfl rfl rfl ?_
  refine WL.assign rfl rfl ?_
  refine WL.nil ?_
  refine WE.then_normal ?_
  refine WC.ret ?_
  refine WE.retV [4] rfl rfl rfl ?_
  show Value.bool (decide (0 ≤ idx p xs 0)) = _
  rw [show decide (0 ≤ idx p xs 0) = xs.any p from by rw [Bool.eq_iff_iff, decide_eq_true_eq, idx_nonneg p xs 0 (by omega)]]
theorem mayBad_spec (ls : List ShapeD) (s : ShapeD) (I : Mem) (v : Value) (vs : List Value) (bl : Nat) (hv : SlV ShapeR 2 I ls v) (hc : I.cell? ⟨bl, 0, none⟩ = some v) (hs : ShapeR I s vs) :
    SpecV Tryd.prog 70 ([] ++ [.agg vs.toArray] ++ [.pointer (some ⟨bl, 0, none⟩)]) I (.bool (badShape ls s)) := by
  obtain ⟨A, cap, rfl, hm, hcap, hS⟩ := hv
  obtain ⟨B, capB, rfl, hmB, hcapB, hB, hrw⟩ := hs
  refine SpecV.intro Tryd.func70 rfl rfl fun w0 => ?_
  show WC _ _ _ _ [] [(0, _), (1, _)] _ _ _
  refine WC.seq ?_
  refine WC.region ?_
  refine WL.box rfl rfl rfl (fun b1 => ?_)
  refine WL.assign rfl rfl ?_
  refine WL.nil ?_
  refine WE.then_normal ?_
  refine WC.seq ?_
  refine WC.region ?_
  refine WL.assign rfl rfl ?_
  refine WL.nil ?_
  refine WE.then_normal ?_
  refine WC.seq ?_
  refine WC.seq ?_
  refine WC.region ?_
  refine WL.fieldAddr rfl tF52_1_c rfl ?_
  refine WL.load_own 0 rfl rfl tA50_c rfl rfl ?_
  refine WL.len_slice rfl tE50_c rfl ?_
  refine WL.move rfl rfl ?_
  refine WL.nil ?_
  refine WE.then_normal ?_
  refine WC.block ?_
  refine WC.loopV (X := Nat × Int) [1, 2, 10, 11, 73, 74, 75, 76, 77, 78, 79, 80, 81, 82, 83, 84, 85, 86] rfl (fun x => [(4, .int .i64 x.2), (12, .int .i64 (x.1 : Int))]) (fun x => x.1 ≤ s.boxes.length ∧ badBoxes ls s.words s.boxes (-1) = badBoxes ls s.words (s.boxes.drop x.1) x.2) (fun x => s.boxes.length - x.1) (0, -1) (⟨Nat.zero_le _, rfl⟩) ⟨rfl, rfl, trivial⟩ (fun x hinv => ?_)
  obtain ⟨k, last⟩ := x
  obtain ⟨hk, hinv⟩ := hinv
  simp only at hk hinv
  dsimp only
  refine WC.seq ?_
  refine WC.region ?_
  refine WL.arith rfl rfl rfl rfl ?_
  refine WL.nil ?_
  refine WE.then_normal ?_
  refine WC.seq ?_
  refine WC.condT rfl (fun h2 => ?_) (fun h2 => ?_)
  · try simp at h2
    all_goals (
      refine WC.skip ?_
      refine WE.then_normal ?_
      refine WC.seq ?_
      refine WC.block ?_
      refine WC.seq ?_
      refine WC.region ?_
      have hlt : k < s.boxes.length := by omega
      obtain ⟨x, hxk⟩ : ∃ x, s.boxes[k]? = some x := ⟨_, List.getElem?_eq_getElem hlt⟩
      obtain ⟨b, off, us, rfl, hul, hrow, rfl, hr1, hr2, hr3⟩ := hB k x hxk
      refine WL.indexAddr rfl rfl tE50_c tS83_c rfl (by first | omega) ?_
      refine WL.load_imm_agg rfl tA83_c tS83_c rfl (by first | exact hrow) (by first | rfl | assumption) ?_
      refine WL.alloc tZ83_c rfl rfl (fun b3 => ?_)
      refine WL.store 0 rfl rfl rfl rfl tS83_c rfl rfl rfl rfl rfl ?_
      refine WL.nil ?_
      refine WE.then_normal ?_
      refine WC.seq ?_
      refine WC.seq ?_
      refine WC.region ?_
      refine WL.fieldAddr rfl tF83_0_c rfl ?_
      refine WL.load_own 0 rfl rfl tA3_c rfl rfl ?_
      refine WL.move rfl rfl ?_
      refine WL.arith rfl rfl rfl rfl ?_
      refine WL.move rfl rfl ?_
      refine WL.split 20 rfl (fun h4 => ?_) (fun h4 => ?_)
      · try simp at h4
        all_goals (
          refine WL.guard_no rfl rfl rfl rfl ?_
          refine WL.guard_no rfl rfl rfl rfl ?_
          refine WL.guard_no rfl rfl rfl rfl ?_
          refine WL.guard_no rfl rfl rfl rfl ?_
          refine WL.guard_no rfl rfl rfl rfl ?_
          refine WL.pick_true rfl rfl rfl ?_
          refine WL.move rfl rfl ?_
          refine WL.guard_no rfl rfl rfl rfl ?_
          refine WL.guard_no rfl rfl rfl rfl ?_
          refine WL.guard_no rfl rfl rfl rfl ?_
          refine WL.pick_true rfl rfl rfl ?_
          refine WL.move rfl rfl ?_
          refine WL.guard_no rfl rfl rfl rfl ?_
          refine WL.guard_no rfl rfl rfl rfl ?_
          refine WL.guard_no rfl rfl rfl rfl ?_
          refine WL.pick_true rfl rfl rfl ?_
          refine WL.move rfl rfl ?_
          refine WL.guard_no rfl rfl rfl rfl ?_
          refine WL.guard_no rfl rfl rfl rfl ?_
          refine WL.guard_no rfl rfl rfl rfl ?_
          refine WL.pick_true rfl rfl rfl ?_
          refine WL.move rfl rfl ?_
          refine WL.guard_no rfl rfl rfl rfl ?_
          refine WL.guard_no rfl rfl rfl rfl ?_
          refine WL.guard_no rfl rfl rfl rfl ?_
          refine WL.guard_no rfl rfl rfl rfl ?_
          refine WL.guard_no rfl rfl rfl rfl ?_
          refine WL.pick_true rfl rfl rfl ?_
          refine WL.nil ?_
          refine WE.then_normal ?_
          refine WC.cond_true rfl ?_
          refine WC.seq ?_
          refine WC.region ?_
          refine WL.assign rfl rfl ?_
          refine WL.nil ?_
          refine WE.then_normal ?_
          refine WC.ret ?_
          refine WE.then_ret ?_
          refine WE.block_ret ?_
          refine WE.then_ret ?_
          refine WE.then_ret ?_
          refine WE.block_ret ?_
          refine WE.then_ret ?_
          refine WE.retV [3] rfl rfl rfl ?_
          have hend : s.boxes.length ≤ k → badBoxes ls s.words s.boxes (-1) = false := fun h => by
            rw [hinv, List.drop_eq_nil_of_le h]; rfl
          first
            | (simp [tupleOf, badShape, ibeq0, hend (by omega), *]; done)
            | (simp [tupleOf, badShape, ibeq0, hend (by omega), show ¬ s.words < 1 by omega, show ¬ 16 < s.words by omega]; done)
            | (simp only [tupleOf, badShape, hinv, drop_at hxk, badBoxes, badBox]; simp [*]; done)
            | (simp only [tupleOf, badShape, hinv, drop_at hxk, badBoxes]; rw [if_neg (by simp [badBox, *]), if_neg (by omega), if_pos (by rw [wordsOf_at hyj]; simp [*])]; simp)
        )
      · try simp at h4
        all_goals (
          refine WL.guard_yes rfl rfl ?_
          refine WL.fieldAddr rfl tF83_0_c rfl ?_
          refine WL.guard_yes rfl rfl ?_
          refine WL.load_own 0 rfl rfl tA3_c rfl rfl ?_
          refine WL.guard_yes rfl rfl ?_
          refine WL.fieldAddr rfl tF52_0_c rfl ?_
          refine WL.guard_yes rfl rfl ?_
          refine WL.load_own 1 rfl rfl tA3_c rfl rfl ?_
          refine WL.guard_yes rfl rfl ?_
          refine WL.arith rfl rfl rfl rfl ?_
          refine WL.pick_false rfl rfl rfl ?_
          refine WL.move rfl rfl ?_
          refine WL.split 27 rfl (fun h5 => ?_) (fun h5 => ?_)
          · try simp at h5
            all_goals (
              refine WL.guard_no rfl rfl rfl rfl ?_
              refine WL.guard_no rfl rfl rfl rfl ?_
              refine WL.guard_no rfl rfl rfl rfl ?_
              refine WL.pick_true rfl rfl rfl ?_
              refine WL.move rfl rfl ?_
              refine WL.guard_no rfl rfl rfl rfl ?_
              refine WL.guard_no rfl rfl rfl rfl ?_
              refine WL.guard_no rfl rfl rfl rfl ?_
              refine WL.pick_true rfl rfl rfl ?_
              refine WL.move rfl rfl ?_
              refine WL.guard_no rfl rfl rfl rfl ?_
              refine WL.guard_no rfl rfl rfl rfl ?_
              refine WL.guard_no rfl rfl rfl rfl ?_
              refine WL.pick_true rfl rfl rfl ?_
              refine WL.move rfl rfl ?_
              refine WL.guard_no rfl rfl rfl rfl ?_
              refine WL.guard_no rfl rfl rfl rfl ?_
              refine WL.guard_no rfl rfl rfl rfl ?_
              refine WL.guard_no rfl rfl rfl rfl ?_
              refine WL.guard_no rfl rfl rfl rfl ?_
              refine WL.pick_true rfl rfl rfl ?_
              refine WL.nil ?_
              refine WE.then_normal ?_
              refine WC.cond_true rfl ?_
              refine WC.seq ?_
              refine WC.region ?_
              refine WL.assign rfl rfl ?_
              refine WL.nil ?_
              refine WE.then_normal ?_
              refine WC.ret ?_
              refine WE.then_ret ?_
              refine WE.block_ret ?_
              refine WE.then_ret ?_
              refine WE.then_ret ?_
              refine WE.block_ret ?_
              refine WE.then_ret ?_
              refine WE.retV [3] rfl rfl rfl ?_
              have hend : s.boxes.length ≤ k → badBoxes ls s.words s.boxes (-1) = false := fun h => by
                rw [hinv, List.drop_eq_nil_of_le h]; rfl
              first
                | (simp [tupleOf, badShape, ibeq0, hend (by omega), *]; done)
                | (simp [tupleOf, badShape, ibeq0, hend (by omega), show ¬ s.words < 1 by omega, show ¬ 16 < s.words by omega]; done)
                | (simp only [tupleOf, badShape, hinv, drop_at hxk, badBoxes, badBox]; simp [*]; done)
                | (simp only [tupleOf, badShape, hinv, drop_at hxk, badBoxes]; rw [if_neg (by simp [badBox, *]), if_neg (by omega), if_pos (by rw [wordsOf_at hyj]; simp [*])]; simp)
            )
          · try simp at h5
            all_goals (
              refine WL.guard_yes rfl rfl ?_
              refine WL.fieldAddr rfl tF83_1_c rfl ?_
              refine WL.guard_yes rfl rfl ?_
              refine WL.load_own 0 rfl rfl tA3_c rfl rfl ?_
              refine WL.guard_yes rfl rfl ?_
              refine WL.arith rfl rfl rfl rfl ?_
              refine WL.pick_false rfl rfl rfl ?_
              refine WL.move rfl rfl ?_
              refine WL.split 32 rfl (fun h6 => ?_) (fun h6 => ?_)
              · try simp at h6
                all_goals (
                  refine WL.guard_no rfl rfl rfl rfl ?_
                  refine WL.guard_no rfl rfl rfl rfl ?_
                  refine WL.guard_no rfl rfl rfl rfl ?_
                  refine WL.pick_true rfl rfl rfl ?_
                  refine WL.move rfl rfl ?_
                  refine WL.guard_no rfl rfl rfl rfl ?_
                  refine WL.guard_no rfl rfl rfl rfl ?_
                  refine WL.guard_no rfl rfl rfl rfl ?_
                  refine WL.pick_true rfl rfl rfl ?_
                  refine WL.move rfl rfl ?_
                  refine WL.guard_no rfl rfl rfl rfl ?_
                  refine WL.guard_no rfl rfl rfl rfl ?_
                  refine WL.guard_no rfl rfl rfl rfl ?_
                  refine WL.guard_no rfl rfl rfl rfl ?_
                  refine WL.guard_no rfl rfl rfl rfl ?_
                  refine WL.pick_true rfl rfl rfl ?_
                  refine WL.nil ?_
                  refine WE.then_normal ?_
                  refine WC.cond_true rfl ?_
                  refine WC.seq ?_
                  refine WC.region ?_
                  refine WL.assign rfl rfl ?_
                  refine WL.nil ?_
                  refine WE.then_normal ?_
                  refine WC.ret ?_
                  refine WE.then_ret ?_
                  refine WE.block_ret ?_
                  refine WE.then_ret ?_
                  refine WE.then_ret ?_
                  refine WE.block_ret ?_
                  refine WE.then_ret ?_
                  refine WE.retV [3] rfl rfl rfl ?_
                  have hend : s.boxes.length ≤ k → badBoxes ls s.words s.boxes (-1) = false := fun h => by
                    rw [hinv, List.drop_eq_nil_of_le h]; rfl
                  first
                    | (simp [tupleOf, badShape, ibeq0, hend (by omega), *]; done)
                    | (simp [tupleOf, badShape, ibeq0, hend (by omega), show ¬ s.words < 1 by omega, show ¬ 16 < s.words by omega]; done)
                    | (simp only [tupleOf, badShape, hinv, drop_at hxk, badBoxes, badBox]; simp [*]; done)
                    | (simp only [tupleOf, badShape, hinv, drop_at hxk, badBoxes]; rw [if_neg (by simp [badBox, *]), if_neg (by omega), if_pos (by rw [wordsOf_at hyj]; simp [*])]; simp)
                )
              · try simp at h6
                all_goals (
                  refine WL.guard_yes rfl rfl ?_
                  refine WL.fieldAddr rfl tF83_1_c rfl ?_
                  refine WL.guard_yes rfl rfl ?_
                  refine WL.load_own 0 rfl rfl tA3_c rfl rfl ?_
                  refine WL.guard_yes rfl rfl ?_
                  refine WL.arith rfl rfl rfl rfl ?_
                  refine WL.pick_false rfl rfl rfl ?_
                  refine WL.move rfl rfl ?_
                  refine WL.split 37 rfl (fun h7 => ?_) (fun h7 => ?_)
                  · try simp at h7
                    all_goals (
                      refine WL.guard_no rfl rfl rfl rfl ?_
                      refine WL.guard_no rfl rfl rfl rfl ?_
                      refine WL.guard_no rfl rfl rfl rfl ?_
                      refine WL.pick_true rfl rfl rfl ?_
                      refine WL.move rfl rfl ?_
                      refine WL.guard_no rfl rfl rfl rfl ?_
                      refine WL.guard_no rfl rfl rfl rfl ?_
                      refine WL.guard_no rfl rfl rfl rfl ?_
                      refine WL.guard_no rfl rfl rfl rfl ?_
                      refine WL.guard_no rfl rfl rfl rfl ?_
                      refine WL.pick_true rfl rfl rfl ?_
                      refine WL.nil ?_
                      refine WE.then_normal ?_
                      refine WC.cond_true rfl ?_
                      refine WC.seq ?_
                      refine WC.region ?_
                      refine WL.assign rfl rfl ?_
                      refine WL.nil ?_
                      refine WE.then_normal ?_
                      refine WC.ret ?_
                      refine WE.then_ret ?_
                      refine WE.block_ret ?_
                      refine WE.then_ret ?_
                      refine WE.then_ret ?_
                      refine WE.block_ret ?_
                      refine WE.then_ret ?_
                      refine WE.retV [3] rfl rfl rfl ?_
                      have hend : s.boxes.length ≤ k → badBoxes ls s.words s.boxes (-1) = false := fun h => by
                        rw [hinv, List.drop_eq_nil_of_le h]; rfl
                      first
                        | (simp [tupleOf, badShape, ibeq0, hend (by omega), *]; done)
                        | (simp [tupleOf, badShape, ibeq0, hend (by omega), show ¬ s.words < 1 by omega, show ¬ 16 < s.words by omega]; done)
                        | (simp only [tupleOf, badShape, hinv, drop_at hxk, badBoxes, badBox]; simp [*]; done)
                        | (simp only [tupleOf, badShape, hinv, drop_at hxk, badBoxes]; rw [if_neg (by simp [badBox, *]), if_neg (by omega), if_pos (by rw [wordsOf_at hyj]; simp [*])]; simp)
                    )
                  · try simp at h7
                    all_goals (
                      refine WL.guard_yes rfl rfl ?_
                      refine WL.fieldAddr rfl tF83_2_c rfl ?_
                      refine WL.guard_yes rfl rfl ?_
                      refine WL.load_own 0 rfl rfl tA3_c rfl rfl ?_
                      refine WL.guard_yes rfl rfl ?_
                      refine WL.arith rfl rfl rfl rfl ?_
                      refine WL.pick_false rfl rfl rfl ?_
                      refine WL.move rfl rfl ?_
                      refine WL.split 42 rfl (fun h8 => ?_) (fun h8 => ?_)
                      · try simp at h8
                        all_goals (
                          refine WL.guard_no rfl rfl rfl rfl ?_
                          refine WL.guard_no rfl rfl rfl rfl ?_
                          refine WL.guard_no rfl rfl rfl rfl ?_
                          refine WL.guard_no rfl rfl rfl rfl ?_
                          refine WL.guard_no rfl rfl rfl rfl ?_
                          refine WL.pick_true rfl rfl rfl ?_
                          refine WL.nil ?_
                          refine WE.then_normal ?_
                          refine WC.cond_true rfl ?_
                          refine WC.seq ?_
                          refine WC.region ?_
                          refine WL.assign rfl rfl ?_
                          refine WL.nil ?_
                          refine WE.then_normal ?_
                          refine WC.ret ?_
                          refine WE.then_ret ?_
                          refine WE.block_ret ?_
                          refine WE.then_ret ?_
                          refine WE.then_ret ?_
                          refine WE.block_ret ?_
                          refine WE.then_ret ?_
                          refine WE.retV [3] rfl rfl rfl ?_
                          have hend : s.boxes.length ≤ k → badBoxes ls s.words s.boxes (-1) = false := fun h => by
                            rw [hinv, List.drop_eq_nil_of_le h]; rfl
                          first
                            | (simp [tupleOf, badShape, ibeq0, hend (by omega), *]; done)
                            | (simp [tupleOf, badShape, ibeq0, hend (by omega), show ¬ s.words < 1 by omega, show ¬ 16 < s.words by omega]; done)
                            | (simp only [tupleOf, badShape, hinv, drop_at hxk, badBoxes, badBox]; simp [*]; done)
                            | (simp only [tupleOf, badShape, hinv, drop_at hxk, badBoxes]; rw [if_neg (by simp [badBox, *]), if_neg (by omega), if_pos (by rw [wordsOf_at hyj]; simp [*])]; simp)
                        )
                      · try simp at h8
                        all_goals (
                          refine WL.guard_yes rfl rfl ?_
                          refine WL.fieldAddr rfl tF83_2_c rfl ?_
                          refine WL.guard_yes rfl rfl ?_
                          refine WL.load_own 0 rfl rfl tA3_c rfl rfl ?_
                          refine WL.guard_yes rfl rfl ?_
                          refine WL.load_imm rfl tA22_c rfl (by first | exact hc | exact hrow' _ _ rfl) ?_
                          refine WL.guard_yes rfl rfl ?_
                          refine WL.len_slice rfl tE22_c rfl ?_
                          refine WL.guard_yes rfl rfl ?_
                          refine WL.arith rfl rfl rfl rfl ?_
                          refine WL.pick_false rfl rfl rfl ?_
                          refine WL.nil ?_
                          refine WE.then_normal ?_
                          refine WC.condT rfl (fun h9 => ?_) (fun h9 => ?_)
                          · try simp at h9
                            all_goals (
                              refine WC.seq ?_
                              refine WC.region ?_
                              refine WL.assign rfl rfl ?_
                              refine WL.nil ?_
                              refine WE.then_normal ?_
                              refine WC.ret ?_
                              refine WE.then_ret ?_
                              refine WE.block_ret ?_
                              refine WE.then_ret ?_
                              refine WE.then_ret ?_
                              refine WE.block_ret ?_
                              refine WE.then_ret ?_
                              refine WE.retV [3] rfl rfl rfl ?_
                              have hend : s.boxes.length ≤ k → badBoxes ls s.words s.boxes (-1) = false := fun h => by
                                rw [hinv, List.drop_eq_nil_of_le h]; rfl
                              first
                                | (simp [tupleOf, badShape, ibeq0, hend (by omega), *]; done)
                                | (simp [tupleOf, badShape, ibeq0, hend (by omega), show ¬ s.words < 1 by omega, show ¬ 16 < s.words by omega]; done)
                                | (simp only [tupleOf, badShape, hinv, drop_at hxk, badBoxes, badBox]; simp [*]; done)
                                | (simp only [tupleOf, badShape, hinv, drop_at hxk, badBoxes]; rw [if_neg (by simp [badBox, *]), if_neg (by omega), if_pos (by rw [wordsOf_at hyj]; simp [*])]; simp)
                            )
                          · try simp at h9
                            all_goals (
                              refine WC.skip ?_
                              refine WE.then_normal ?_
                              refine WC.seq ?_
                              refine WC.region ?_
                              refine WL.fieldAddr rfl tF83_0_c rfl ?_
                              refine WL.load_own 0 rfl rfl tA3_c rfl rfl ?_
                              refine WL.assign rfl rfl ?_
                              refine WL.nil ?_
                              refine WE.then_normal ?_
                              refine WC.seq ?_
                              refine WC.seq ?_
                              refine WC.region ?_
                              refine WL.fieldAddr rfl tF83_2_c rfl ?_
                              refine WL.load_own 0 rfl rfl tA3_c rfl rfl ?_
                              refine WL.arith rfl rfl rfl rfl ?_
                              refine WL.nil ?_
                              refine WE.then_normal ?_
                              refine WC.condT rfl (fun h10 => ?_) (fun h10 => ?_)
                              · try simp at h10
                                all_goals (
                                  refine WC.exit ?_
                                  refine WE.then_exit ?_
                                  refine WE.block_exit ?_
                                  refine WE.then_normal ?_
                                  refine WC.region ?_
                                  first | refine WL.add rfl rfl (by omega) rfl ?_ | refine WL.arith rfl rfl rfl rfl ?_
                                  refine WL.move rfl rfl ?_
                                  refine WL.nil ?_
                                  refine WE.pick [1] rfl rfl ?_
                                  refine WE.backV (k + 1, x.at_) (⟨by simp only; omega, by
                                    rw [hinv, drop_at hxk]
                                    first | (simp [badBoxes, badBox, *]; done) | (rw [badBoxes, if_neg (by simp [badBox, *]), if_pos (by omega)]) | (rw [badBoxes, if_neg (by simp [badBox, *]), if_neg (by omega), if_neg (by rw [wordsOf_at hyj]; simp [*])])⟩) (by simp only; omega) ⟨rfl, rfl, trivial⟩ (by repeat (first | exact trivial | refine ⟨rfl, ?_⟩))
                                )
                              · try simp at h10
                                all_goals (
                                  refine WC.skip ?_
                                  refine WE.then_normal ?_
                                  refine WC.seq ?_
                                  refine WC.region ?_
                                  obtain ⟨y, hyj⟩ : ∃ y, ls[x.shp.toNat]? = some y := ⟨_, List.getElem?_eq_getElem (by omega)⟩
                                  obtain ⟨b', off', us', rfl, hul', hrow', C, capC, rfl, hmC, hcapC, hC, hrc⟩ := hS x.shp.toNat y hyj
                                  refine WL.load_imm rfl tA22_c rfl (by first | exact hc | exact hrow' _ _ rfl) ?_
                                  refine WL.fieldAddr rfl tF83_2_c rfl ?_
                                  refine WL.load_own 0 rfl rfl tA3_c rfl rfl ?_
                                  refine WL.indexAddr rfl rfl tE22_c tS52_c rfl (by first | omega) ?_
                                  refine WL.fieldAddr rfl tF52_0_c rfl ?_
                                  refine WL.load_imm rfl tA3_c rfl (by first | exact hc | exact hrow' _ _ rfl) ?_
                                  refine WL.callV okF71_c rfl rfl (class_spec y.words I) ?_
                                  refine WL.move rfl rfl ?_
                                  refine WL.extract rfl rfl rfl ?_
                                  refine WL.extract rfl rfl rfl ?_
                                  refine WL.assign rfl rfl ?_
                                  refine WL.assign rfl rfl ?_
                                  refine WL.nil ?_
                                  refine WE.then_normal ?_
                                  refine WC.seq ?_
                                  refine WC.region ?_
                                  refine WL.move rfl rfl ?_
                                  refine WL.arith rfl rfl rfl rfl ?_
                                  refine WL.move rfl rfl ?_
                                  refine WL.split 66 rfl (fun h11 => ?_) (fun h11 => ?_)
                                  · try simp at h11
                                    all_goals (
                                      refine WL.guard_no rfl rfl rfl rfl ?_
                                      refine WL.guard_no rfl rfl rfl rfl ?_
                                      refine WL.guard_no rfl rfl rfl rfl ?_
                                      refine WL.guard_no rfl rfl rfl rfl ?_
                                      refine WL.pick_true rfl rfl rfl ?_
                                      refine WL.nil ?_
                                      refine WE.then_normal ?_
                                      refine WC.cond_true rfl ?_
                                      refine WC.seq ?_
                                      refine WC.region ?_
                                      refine WL.assign rfl rfl ?_
                                      refine WL.nil ?_
                                      refine WE.then_normal ?_
                                      refine WC.ret ?_
                                      refine WE.block_ret ?_
                                      refine WE.then_ret ?_
                                      refine WE.then_ret ?_
                                      refine WE.block_ret ?_
                                      refine WE.then_ret ?_
                                      refine WE.retV [3] rfl rfl rfl ?_
                                      have hend : s.boxes.length ≤ k → badBoxes ls s.words s.boxes (-1) = false := fun h => by
                                        rw [hinv, List.drop_eq_nil_of_le h]; rfl
                                      first
                                        | (simp [tupleOf, badShape, ibeq0, hend (by omega), *]; done)
                                        | (simp [tupleOf, badShape, ibeq0, hend (by omega), show ¬ s.words < 1 by omega, show ¬ 16 < s.words by omega]; done)
                                        | (simp only [tupleOf, badShape, hinv, drop_at hxk, badBoxes, badBox]; simp [*]; done)
                                        | (simp only [tupleOf, badShape, hinv, drop_at hxk, badBoxes]; rw [if_neg (by simp [badBox, *]), if_neg (by omega), if_pos (by rw [wordsOf_at hyj]; simp [*])]; simp)
                                    )
                                  · try simp at h11
                                    all_goals (
                                      refine WL.guard_yes rfl rfl ?_
                                      refine WL.move rfl rfl ?_
                                      refine WL.guard_yes rfl rfl ?_
                                      refine WL.fieldAddr rfl tF83_1_c rfl ?_
                                      refine WL.guard_yes rfl rfl ?_
                                      refine WL.load_own 0 rfl rfl tA3_c rfl rfl ?_
                                      refine WL.guard_yes rfl rfl ?_
                                      refine WL.arith rfl rfl rfl rfl ?_
                                      refine WL.pick_false rfl rfl rfl ?_
                                      refine WL.nil ?_
                                      refine WE.then_normal ?_
                                      refine WC.condT rfl (fun h12 => ?_) (fun h12 => ?_)
                                      · try simp at h12
                                        all_goals (
                                          refine WC.seq ?_
                                          refine WC.region ?_
                                          refine WL.assign rfl rfl ?_
                                          refine WL.nil ?_
                                          refine WE.then_normal ?_
                                          refine WC.ret ?_
                                          refine WE.block_ret ?_
                                          refine WE.then_ret ?_
                                          refine WE.then_ret ?_
                                          refine WE.block_ret ?_
                                          refine WE.then_ret ?_
                                          refine WE.retV [3] rfl rfl rfl ?_
                                          have hend : s.boxes.length ≤ k → badBoxes ls s.words s.boxes (-1) = false := fun h => by
                                            rw [hinv, List.drop_eq_nil_of_le h]; rfl
                                          first
                                            | (simp [tupleOf, badShape, ibeq0, hend (by omega), *]; done)
                                            | (simp [tupleOf, badShape, ibeq0, hend (by omega), show ¬ s.words < 1 by omega, show ¬ 16 < s.words by omega]; done)
                                            | (simp only [tupleOf, badShape, hinv, drop_at hxk, badBoxes, badBox]; simp [*]; done)
                                            | (simp only [tupleOf, badShape, hinv, drop_at hxk, badBoxes]; rw [if_neg (by simp [badBox, *]), if_neg (by omega), if_pos (by rw [wordsOf_at hyj]; simp [*])]; simp)
                                        )
                                      · try simp at h12
                                        all_goals (
                                          refine WC.skip ?_
                                          refine WE.block_normal ?_
                                          refine WE.then_normal ?_
                                          refine WC.region ?_
                                          first | refine WL.add rfl rfl (by omega) rfl ?_ | refine WL.arith rfl rfl rfl rfl ?_
                                          refine WL.move rfl rfl ?_
                                          refine WL.nil ?_
                                          refine WE.pick [1] rfl rfl ?_
                                          refine WE.backV (k + 1, x.at_) (⟨by simp only; omega, by
                                            rw [hinv, drop_at hxk]
                                            first | (simp [badBoxes, badBox, *]; done) | (rw [badBoxes, if_neg (by simp [badBox, *]), if_pos (by omega)]) | (rw [badBoxes, if_neg (by simp [badBox, *]), if_neg (by omega), if_neg (by rw [wordsOf_at hyj]; simp [*])])⟩) (by simp only; omega) ⟨rfl, rfl, trivial⟩ (by repeat (first | exact trivial | refine ⟨rfl, ?_⟩))
                                        )
                                    )
                                )
                            )
                        )
                    )
                )
            )
        )
    )
  · try simp at h2
    all_goals (
      refine WC.exit ?_
      refine WE.then_exit ?_
      refine WE.then_exit ?_
      refine WE.block_exit ?_
      refine WE.then_normal ?_
      refine WC.seq ?_
      refine WC.region ?_
      refine WL.fieldAddr rfl tF52_0_c rfl ?_
      refine WL.load_own 0 rfl rfl tA3_c rfl rfl ?_
      refine WL.arith rfl rfl rfl rfl ?_
      refine WL.move rfl rfl ?_
      refine WL.split 76 rfl (fun h13 => ?_) (fun h13 => ?_)
      · try simp at h13
        all_goals (
          refine WL.guard_no rfl rfl rfl rfl ?_
          refine WL.guard_no rfl rfl rfl rfl ?_
          refine WL.guard_no rfl rfl rfl rfl ?_
          refine WL.pick_true rfl rfl rfl ?_
          refine WL.move rfl rfl ?_
          refine WL.guard_no rfl rfl rfl rfl ?_
          refine WL.guard_no rfl rfl rfl rfl ?_
          refine WL.guard_no rfl rfl rfl rfl ?_
          refine WL.guard_no rfl rfl rfl rfl ?_
          refine WL.pick_true rfl rfl rfl ?_
          refine WL.assign rfl rfl ?_
          refine WL.nil ?_
          refine WE.then_normal ?_
          refine WC.ret ?_
          refine WE.retV [3] rfl rfl rfl ?_
          have hend : s.boxes.length ≤ k → badBoxes ls s.words s.boxes (-1) = false := fun h => by
            rw [hinv, List.drop_eq_nil_of_le h]; rfl
          first
            | (simp [tupleOf, badShape, ibeq0, hend (by omega), *]; done)
            | (simp [tupleOf, badShape, ibeq0, hend (by omega), show ¬ s.words < 1 by omega, show ¬ 16 < s.words by omega]; done)
            | (simp only [tupleOf, badShape, hinv, drop_at hxk, badBoxes, badBox]; simp [*]; done)
            | (simp only [tupleOf, badShape, hinv, drop_at hxk, badBoxes]; rw [if_neg (by simp [badBox, *]), if_neg (by omega), if_pos (by rw [wordsOf_at hyj]; simp [*])]; simp)
        )
      · try simp at h13
        all_goals (
          refine WL.guard_yes rfl rfl ?_
          refine WL.fieldAddr rfl tF52_0_c rfl ?_
          refine WL.guard_yes rfl rfl ?_
          refine WL.load_own 0 rfl rfl tA3_c rfl rfl ?_
          refine WL.guard_yes rfl rfl ?_
          refine WL.arith rfl rfl rfl rfl ?_
          refine WL.pick_false rfl rfl rfl ?_
          refine WL.move rfl rfl ?_
          refine WL.split 81 rfl (fun h14 => ?_) (fun h14 => ?_)
          · try simp at h14
            all_goals (
              refine WL.guard_no rfl rfl rfl rfl ?_
              refine WL.guard_no rfl rfl rfl rfl ?_
              refine WL.guard_no rfl rfl rfl rfl ?_
              refine WL.guard_no rfl rfl rfl rfl ?_
              refine WL.pick_true rfl rfl rfl ?_
              refine WL.assign rfl rfl ?_
              refine WL.nil ?_
              refine WE.then_normal ?_
              refine WC.ret ?_
              refine WE.retV [3] rfl rfl rfl ?_
              have hend : s.boxes.length ≤ k → badBoxes ls s.words s.boxes (-1) = false := fun h => by
                rw [hinv, List.drop_eq_nil_of_le h]; rfl
              first
                | (simp [tupleOf, badShape, ibeq0, hend (by omega), *]; done)
                | (simp [tupleOf, badShape, ibeq0, hend (by omega), show ¬ s.words < 1 by omega, show ¬ 16 < s.words by omega]; done)
                | (simp only [tupleOf, badShape, hinv, drop_at hxk, badBoxes, badBox]; simp [*]; done)
                | (simp only [tupleOf, badShape, hinv, drop_at hxk, badBoxes]; rw [if_neg (by simp [badBox, *]), if_neg (by omega), if_pos (by rw [wordsOf_at hyj]; simp [*])]; simp)
            )
          · try simp at h14
            all_goals (
              refine WL.guard_yes rfl rfl ?_
              refine WL.fieldAddr rfl tF52_1_c rfl ?_
              refine WL.guard_yes rfl rfl ?_
              refine WL.load_own 0 rfl rfl tA50_c rfl rfl ?_
              refine WL.guard_yes rfl rfl ?_
              refine WL.len_slice rfl tE50_c rfl ?_
              refine WL.guard_yes rfl rfl ?_
              refine WL.arith rfl rfl rfl rfl ?_
              refine WL.pick_false rfl rfl rfl ?_
              refine WL.assign rfl rfl ?_
              refine WL.nil ?_
              refine WE.then_normal ?_
              refine WC.ret ?_
              refine WE.retV [3] rfl rfl rfl ?_
              have hend : s.boxes.length ≤ k → badBoxes ls s.words s.boxes (-1) = false := fun h => by
                rw [hinv, List.drop_eq_nil_of_le h]; rfl
              first
                | (simp [tupleOf, badShape, ibeq0, hend (by omega), *]; done)
                | (simp [tupleOf, badShape, ibeq0, hend (by omega), show ¬ s.words < 1 by omega, show ¬ 16 < s.words by omega]; done)
                | (simp only [tupleOf, badShape, hinv, drop_at hxk, badBoxes, badBox]; simp [*]; done)
                | (simp only [tupleOf, badShape, hinv, drop_at hxk, badBoxes]; rw [if_neg (by simp [badBox, *]), if_neg (by omega), if_pos (by rw [wordsOf_at hyj]; simp [*])]; simp)
            )
        )
    )
theorem mayShapes_spec (ls : List ShapeD) (I : Mem) (v : Value) (hv : SlV ShapeR 2 I ls v) : SpecV Tryd.prog 44 [v] I (.bool (mayShapes ls)) := by
  obtain ⟨A, cap, rfl, hm, hcap, hS⟩ := hv
  have hv : SlV ShapeR 2 I ls (.slice A ls.length cap) := ⟨A, cap, rfl, hm, hcap, hS⟩
  refine SpecV.intro Tryd.func44 rfl rfl fun w0 => ?_
  show WC _ _ _ _ [] [(0, _)] _ _ _
  refine WC.seq ?_
  refine WC.region ?_
  refine WL.box rfl rfl rfl (fun b1 => ?_)
  refine WL.assign rfl rfl ?_
  refine WL.nil ?_
  refine WE.then_normal ?_
  refine WC.seq ?_
  refine WC.seq ?_
  refine WC.region ?_
  refine WL.load_own 0 rfl rfl tA22_c rfl rfl ?_
  refine WL.len_slice rfl tE22_c rfl ?_
  refine WL.arith rfl rfl rfl rfl ?_
  refine WL.nil ?_
  refine WE.then_normal ?_
  refine WC.condT rfl (fun h2 => ?_) (fun h2 => ?_)
  · try simp only [decide_eq_true_eq, decide_eq_false_iff_not, beq_iff_eq, bne_iff_ne, ne_eq, beq_eq_false_iff_ne, bne_eq_false_iff_eq, Bool.not_eq_true', Bool.not_eq_false', gt_iff_lt, ge_iff_le] at h2
    all_goals (
      refine WC.seq ?_
      refine WC.region ?_
      refine WL.assign rfl rfl ?_
      refine WL.nil ?_
      refine WE.then_normal ?_
      refine WC.ret ?_
      refine WE.then_ret ?_
      refine WE.retV [2] rfl rfl rfl ?_
      first | (rw [mayShapes, show decide (ls.length ≤ 4096) = false from decide_eq_false (by omega)]; rfl) | (rw [mayShapes, show decide (ls.length ≤ 4096) = true from decide_eq_true (by omega)]; simp [tupleOf])
    )
  · try simp only [decide_eq_true_eq, decide_eq_false_iff_not, beq_iff_eq, bne_iff_ne, ne_eq, beq_eq_false_iff_ne, bne_eq_false_iff_eq, Bool.not_eq_true', Bool.not_eq_false', gt_iff_lt, ge_iff_le] at h2
    all_goals (
      refine WC.skip ?_
      refine WE.then_normal ?_
      refine WC.seq ?_
      refine WC.region ?_
      refine WL.freeze' (fun I1 hI1 hb1 => ?_)
      have hv1 := SlV.mono ShapeR_mono hI1 hv
      have hc1 : I1.cell? ⟨b1, 0, none⟩ = some (.slice A ls.length cap) := Mem.cell_of hb1 rfl
      refine WL.makeFunc rfl rfl rfl ?_
      refine WL.assign rfl rfl ?_
      refine WL.nil ?_
      refine WE.then_normal ?_
      refine WC.seq ?_
      refine WC.region ?_
      refine WL.load_imm rfl tA22_c rfl (by first | exact hc1) ?_
      refine WL.move rfl rfl ?_
      refine WL.callV okF72_c rfl rfl (containsFunc_shape okF70_c I1 ls _ hv1 (p := badShape ls) (fun x vs hx _ => mayBad_spec ls x I1 _ vs _ hv1 hc1 hx)) ?_
      refine WL.not rfl rfl ?_
      refine WL.assign rfl rfl ?_
      refine WL.nil ?_
      refine WE.then_normal ?_
      refine WC.ret ?_
      refine WE.retV [2] rfl rfl rfl ?_
      first | (rw [mayShapes, show decide (ls.length ≤ 4096) = false from decide_eq_false (by omega)]; rfl) | (rw [mayShapes, show decide (ls.length ≤ 4096) = true from decide_eq_true (by omega)]; simp [tupleOf])
    )
end Go.Proofs.YtddkkmdbolgnlaaDoor.Fw
