/- A part of the proof: steps of the walk and laws that the claim's theorem rests on; each lemma states its own conditions. -/
import Derived.Test.YtddkkmdbolgnlaaDoorT14
import Derived.Test.YtddkkmdbolgnlaaDoorProg
set_option linter.unusedVariables false
set_option linter.unusedSimpArgs false
namespace Go.Proofs.YtddkkmdbolgnlaaDoor.Fw
open Go.Proofs
set_option maxRecDepth 100000
set_option linter.unusedVariables false
set_option linter.unusedSimpArgs false
theorem tZ34_o : zeroT Tryd.prog 34 = some (.agg [(.int .u8 0), (.int .i64 0), (.int .u8 0), (.int .u8 0), (.slice none 0 0)].toArray) := by kernel_rfl
theorem okF26_o : okFn Tryd.prog 26 Tryd.f26 := ⟨Tryd.func26, by kernel_rfl, rfl⟩
theorem tSt34_o : structT Tryd.prog 34 = some [(0, 1), (1, 1), (2, 1), (3, 1), (4, 1)] := by kernel_rfl
theorem tS34_o : szT Tryd.prog 34 = some 5 := by kernel_rfl
theorem tF69_9_o : offT Tryd.prog 69 9 = some 27 := by kernel_rfl
theorem tF34_4_o : offT Tryd.prog 34 4 = some 4 := by kernel_rfl
theorem tA27_o : aggT Tryd.prog 27 = some false := by kernel_rfl
theorem okF25_o : okFn Tryd.prog 25 Tryd.f25 := ⟨Tryd.func25, by kernel_rfl, rfl⟩
theorem tS27_o : szT Tryd.prog 27 = some 1 := by kernel_rfl
theorem tA34_o : aggT Tryd.prog 34 = some true := by kernel_rfl
theorem tF69_1_o : offT Tryd.prog 69 1 = some 4 := by kernel_rfl
theorem tA61_o : aggT Tryd.prog 61 = some false := by kernel_rfl
theorem okF30_o : okFn Tryd.prog 30 Tryd.f30 := ⟨Tryd.func30, by kernel_rfl, rfl⟩
theorem outcome_spec (x : MV) (bm Em bh : Nat) (I : Mem) (hr : x.regs.length = 16) (hhp : x.hp = .pointer (some ⟨bh, 0, none⟩)) (ki an tr : Int) (ps : List Int) (Ap : Option Addr) (kp : Nat) (Cp : Chunk) (hk : x.kind = .int .u8 ki) (ha : x.ans = .int .i64 an) (ht : x.trap = .int .u8 tr) (hw : x.why = .int .u8 0) (hp : x.pv = .slice Ap ps.length kp) (hS : SlO 1 (ints ps) Ap kp Cp) (hl : ps.length ≤ 16777216) : Spec Tryd.prog 12 [.pointer (some ⟨bm, 0, none⟩)] I (mcObj bm Em x ++ Cp) (fun v I' C' => I' = I ∧ ∃ A k Cn, v = .agg [.int .u8 ki, .int .i64 an, .int .u8 tr, .int .u8 0, .slice A ps.length k].toArray ∧ SlO 1 (ints ps) A k Cn ∧ C' = Cn ++ (mcObj bm Em x ++ Cp)) := by
  refine Spec.intro Tryd.func12 rfl rfl fun Γ => ?_
  show WC _ _ _ _ [] [(0, _)] _ _ _
  refine WC.regroup [mcObj bm Em x, Cp] (by simp) ?_
  refine WC.seq ?_
  refine WC.region ?_
  refine WL.alloc tZ34_o rfl rfl (fun b1 => ?_)
  refine WL.nil ?_
  refine WE.then_normal ?_
  refine WC.seq ?_
  refine WC.seq ?_
  refine WC.region ?_
  refine WL.move rfl rfl ?_
  refine WL.callQ 1 okF26_o rfl rfl rfl (there_spec x bm Em bh I hr hhp) ?_
  refine WL.not rfl rfl ?_
  refine WL.nil ?_
  refine WE.then_normal ?_
  refine WC.condT rfl (fun h2 => ?_) (fun h2 => ?_)
  · try simp only [decide_eq_true_eq, decide_eq_false_iff_not, beq_iff_eq, bne_iff_ne, ne_eq, beq_eq_false_iff_ne, bne_eq_false_iff_eq, Bool.not_eq_true', Bool.not_eq_false', gt_iff_lt, ge_iff_le] at h2
    try (exfalso; simp at *; done)
    all_goals (
      refine WC.seq ?_
      refine WC.region ?_
      refine WL.build_struct rfl tZ34_o tSt34_o rfl rfl rfl ?_
      refine WL.store 0 rfl rfl rfl rfl tS34_o rfl rfl rfl rfl rfl ?_
      refine WL.nil ?_
      refine WE.then_normal ?_
      refine WC.ret ?_
      refine WE.then_ret ?_
      skip
    )
  · try simp only [decide_eq_true_eq, decide_eq_false_iff_not, beq_iff_eq, bne_iff_ne, ne_eq, beq_eq_false_iff_ne, bne_eq_false_iff_eq, Bool.not_eq_true', Bool.not_eq_false', gt_iff_lt, ge_iff_le] at h2
    try (exfalso; simp at *; done)
    all_goals (
      refine WC.skip ?_
      refine WE.then_normal ?_
      refine WC.seq ?_
      refine WC.region ?_
      refine WL.move rfl rfl ?_
      refine WL.nilCheck rfl rfl ?_
      refine WL.fieldAddr rfl tF69_9_o rfl ?_
      refine WL.load_own_agg 1 rfl rfl tA34_o tS34_o (mc_out hr hk ha ht hw hp) rfl ?_
      refine WL.alloc tZ34_o rfl rfl (fun b3 => ?_)
      refine WL.store 0 rfl rfl rfl rfl tS34_o rfl rfl rfl rfl rfl ?_
      refine WL.nil ?_
      refine WE.then_normal ?_
      refine WC.seq ?_
      refine WC.region ?_
      refine WL.fieldAddr rfl tF34_4_o rfl ?_
      refine WL.load_own 0 rfl rfl tA27_o rfl rfl ?_
      refine WL.pick [3, 0, 1, 2] rfl rfl ?_
      refine WL.call1 okF25_o rfl rfl (clone_int I Cp Ap ps.length kp (ints ps) (hS.srcO I) (by rw [ints_len]; omega) (ints_one ps) (fun h => hS.nil_len h) (by omega) (by omega)) (fun v1 I1 C1 _ hv => ?_)
      obtain ⟨hI, A1, k1, Cn, rfl, hN, rfl⟩ := hv
      have hI := hI.symm
      subst hI
      refine WL.perm (fun _ hs => hs.part) ?_
      refine WL.fieldAddr rfl tF34_4_o rfl ?_
      refine WL.store 2 rfl rfl rfl rfl tS27_o rfl rfl rfl rfl rfl ?_
      refine WL.nil ?_
      refine WE.then_normal ?_
      refine WC.seq ?_
      refine WC.region ?_
      refine WL.load_own_agg 2 rfl rfl tA34_o tS34_o rfl rfl ?_
      refine WL.store 3 rfl rfl rfl rfl tS34_o rfl rfl rfl rfl rfl ?_
      refine WL.nil ?_
      refine WE.then_normal ?_
      refine WC.ret ?_
      refine WE.pick [0, 4, 1, 3] rfl rfl ?_
      refine WE.perm (fun w hs => hs.join3) ?_
      refine WE.retCr rfl (.cons (.agg 1 rfl rfl tA34_o tS34_o rfl) .nil) rfl ?_
      exact ⟨rfl, A1, k1, Cn, rfl, hN, rfl⟩
    )
theorem boxes_spec (x : MV) (bm Em bh Eh : Nat) (h : List ArD) (I : Mem) (hr : x.regs.length = 16) (hhp : x.hp = .pointer (some ⟨bh, 0, none⟩)) (hwf : WFh h) : Spec Tryd.prog 16 [.pointer (some ⟨bm, 0, none⟩)] I (mcObj bm Em x ++ hpObj bh Eh h) (fun v I' C' => I' = I ∧ ∃ A k Cn, v = .slice A 5 k ∧ SlO 1 (countsL h) A k Cn ∧ C' = Cn ++ (mcObj bm Em x ++ hpObj bh Eh h)) := by
  refine Spec.intro Tryd.func16 rfl rfl fun Γ => ?_
  show WC _ _ _ _ [] [(0, _)] _ _ _
  refine WC.regroup [mcObj bm Em x, hpObj bh Eh h] (by simp) ?_
  refine WC.seq ?_
  refine WC.region ?_
  refine WL.assign rfl rfl ?_
  refine WL.nil ?_
  refine WE.then_normal ?_
  refine WC.seq ?_
  refine WC.seq ?_
  refine WC.region ?_
  refine WL.move rfl rfl ?_
  refine WL.callQ 0 okF26_o rfl rfl rfl (there_spec x bm Em bh I hr hhp) ?_
  refine WL.not rfl rfl ?_
  refine WL.nil ?_
  refine WE.then_normal ?_
  refine WC.condT rfl (fun h1 => ?_) (fun h1 => ?_)
  · try simp only [decide_eq_true_eq, decide_eq_false_iff_not, beq_iff_eq, bne_iff_ne, ne_eq, beq_eq_false_iff_ne, bne_eq_false_iff_eq, Bool.not_eq_true', Bool.not_eq_false', gt_iff_lt, ge_iff_le] at h1
    try (exfalso; simp at *; done)
    all_goals (
      refine WC.seq ?_
      refine WC.region ?_
      refine WL.assign rfl rfl ?_
      refine WL.nil ?_
      refine WE.then_normal ?_
      refine WC.ret ?_
      refine WE.then_ret ?_
      skip
    )
  · try simp only [decide_eq_true_eq, decide_eq_false_iff_not, beq_iff_eq, bne_iff_ne, ne_eq, beq_eq_false_iff_ne, bne_eq_false_iff_eq, Bool.not_eq_true', Bool.not_eq_false', gt_iff_lt, ge_iff_le] at h1
    try (exfalso; simp at *; done)
    all_goals (
      refine WC.skip ?_
      refine WE.then_normal ?_
      refine WC.seq ?_
      refine WC.region ?_
      refine WL.move rfl rfl ?_
      refine WL.nilCheck rfl rfl ?_
      refine WL.fieldAddr rfl tF69_1_o rfl ?_
      refine WL.load_own 0 rfl rfl tA61_o mc4 rfl ?_
      rw [hhp]
      refine WL.pick [1, 0] rfl rfl ?_
      refine WL.call1 okF30_o rfl rfl (counts_spec h bh Eh I hwf) (fun v1 I1 C1 _ hv => ?_)
      obtain ⟨hI, A1, k1, Cn, rfl, hN, rfl⟩ := hv
      have hI := hI.symm
      subst hI
      refine WL.perm (fun _ hs => hs.part) ?_
      refine WL.assign rfl rfl ?_
      refine WL.nil ?_
      refine WE.then_normal ?_
      refine WC.ret ?_
      refine WE.pick [0, 2, 1] rfl rfl ?_
      refine WE.perm (fun w hs => hs.join3) ?_
      refine WE.retCr rfl (.cons (.tmp rfl) .nil) rfl ?_
      exact ⟨rfl, A1, k1, Cn, rfl, hN, rfl⟩
    )
end Go.Proofs.YtddkkmdbolgnlaaDoor.Fw
