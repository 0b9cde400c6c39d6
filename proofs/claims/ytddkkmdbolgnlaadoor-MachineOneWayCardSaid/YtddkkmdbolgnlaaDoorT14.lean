/- A part of the proof: steps of the walk and laws that the claim's theorem rests on; each lemma states its own conditions. -/
import Derived.Test.YtddkkmdbolgnlaaDoorT13
import Derived.Test.YtddkkmdbolgnlaaDoorWalkE
import Derived.Test.YtddkkmdbolgnlaaDoorProg
set_option linter.unusedVariables false
set_option linter.unusedSimpArgs false
namespace Go.Proofs.YtddkkmdbolgnlaaDoor.Fw
open Go.Proofs
set_option maxRecDepth 100000
set_option linter.unusedVariables false
set_option linter.unusedSimpArgs false
theorem tP38_g : ptrT Tryd.prog 38 = true := by kernel_rfl
theorem tF69_1_g : offT Tryd.prog 69 1 = some 4 := by kernel_rfl
theorem tA61_g : aggT Tryd.prog 61 = some false := by kernel_rfl
theorem tP61_g : ptrT Tryd.prog 61 = true := by kernel_rfl
theorem okF26_g : okFn Tryd.prog 26 Tryd.f26 := ⟨Tryd.func26, by kernel_rfl, rfl⟩
theorem tF69_9_g : offT Tryd.prog 69 9 = some 27 := by kernel_rfl
theorem tF34_0_g : offT Tryd.prog 34 0 = some 0 := by kernel_rfl
theorem tA30_g : aggT Tryd.prog 30 = some false := by kernel_rfl
theorem tF69_4_g : offT Tryd.prog 69 4 = some 22 := by kernel_rfl
theorem tA3_g : aggT Tryd.prog 3 = some false := by kernel_rfl
theorem tF69_7_g : offT Tryd.prog 69 7 = some 25 := by kernel_rfl
theorem tA67_g : aggT Tryd.prog 67 = some false := by kernel_rfl
theorem tE67_g : sliceT Tryd.prog 67 = some 72 := by kernel_rfl
theorem tF69_10_g : offT Tryd.prog 69 10 = some 32 := by kernel_rfl
theorem tF69_8_g : offT Tryd.prog 69 8 = some 26 := by kernel_rfl
theorem tA27_g : aggT Tryd.prog 27 = some false := by kernel_rfl
theorem tE27_g : sliceT Tryd.prog 27 = some 2 := by kernel_rfl
theorem tF69_3_g : offT Tryd.prog 69 3 = some 6 := by kernel_rfl
theorem tAr66_g : arrT Tryd.prog 66 = some (16, 2) := by kernel_rfl
theorem tS2_g : szT Tryd.prog 2 = some 1 := by kernel_rfl
theorem tA2_g : aggT Tryd.prog 2 = some false := by kernel_rfl
theorem there_spec (x : MV) (bm Em bh : Nat) (I : Mem) (hr : x.regs.length = 16) (hhp : x.hp = .pointer (some ⟨bh, 0, none⟩)) : Spec Tryd.prog 26 [.pointer (some ⟨bm, 0, none⟩)] I (mcObj bm Em x) (fun v I' C' => v = .bool true ∧ I' = I ∧ C' = mcObj bm Em x) := by
  refine Spec.intro Tryd.func26 rfl rfl fun Γ => ?_
  show WC _ _ _ _ [] [(0, _)] _ _ _
  show WC _ _ _ _ [] _ _ _ [mcObj bm Em x]
  refine WC.seq ?_
  refine WC.region ?_
  refine WL.assign rfl rfl ?_
  refine WL.nil ?_
  refine WE.then_normal ?_
  refine WC.seq ?_
  refine WC.region ?_
  refine WL.move rfl rfl ?_
  refine WL.ptr_nenil rfl tP38_g rfl ?_
  refine WL.move rfl rfl ?_
  refine WL.split 5 rfl (fun h1 => ?_) (fun h1 => ?_)
  · try simp at h1
    try (exfalso; simp at *; done)
    all_goals (
      refine WL.guard_yes rfl rfl ?_
      refine WL.move rfl rfl ?_
      refine WL.guard_yes rfl rfl ?_
      refine WL.nilCheck rfl rfl ?_
      refine WL.guard_yes rfl rfl ?_
      refine WL.fieldAddr rfl tF69_1_g rfl ?_
      refine WL.guard_yes rfl rfl ?_
      refine WL.load_own 0 rfl rfl tA61_g mc4 rfl ?_
      refine WL.guard_yes rfl rfl ?_
      rw [hhp]
      refine WL.ptr_nenil rfl tP61_g rfl ?_
      refine WL.pick_true rfl rfl rfl ?_
      refine WL.assign rfl rfl ?_
      refine WL.nil ?_
      refine WE.then_normal ?_
      refine WC.ret ?_
      first | (refine WE.retCr rfl (.cons (.tmp rfl) .nil) rfl ?_; exact ⟨rfl, rfl, rfl⟩) | skip
    )
  · try simp at h1
    try (exfalso; simp at *; done)
    all_goals (
      refine WL.guard_no rfl rfl rfl rfl ?_
      refine WL.guard_no rfl rfl rfl rfl ?_
      refine WL.guard_no rfl rfl rfl rfl ?_
      refine WL.guard_no rfl rfl rfl rfl ?_
      refine WL.guard_no rfl rfl rfl rfl ?_
      refine WL.pick_false rfl rfl rfl ?_
      refine WL.assign rfl rfl ?_
      refine WL.nil ?_
      refine WE.then_normal ?_
      refine WC.ret ?_
      first | (refine WE.retCr rfl (.cons (.tmp rfl) .nil) rfl ?_; exact ⟨rfl, rfl, rfl⟩) | skip
    )
theorem at_spec (ki at_ : Int) (x : MV) (bm Em bh : Nat) (I : Mem) (hr : x.regs.length = 16) (hhp : x.hp = .pointer (some ⟨bh, 0, none⟩)) (hk : x.kind = .int .u8 ki) (ha : x.at_ = .int .i64 at_) : Spec Tryd.prog 18 [.pointer (some ⟨bm, 0, none⟩)] I (mcObj bm Em x) (fun v I' C' => v = .tuple [.int .i64 (if ki = 1 then at_ else 0), .bool (decide (ki = 1))].toArray ∧ I' = I ∧ C' = mcObj bm Em x) := by
  refine Spec.intro Tryd.func18 rfl rfl fun Γ => ?_
  show WC _ _ _ _ [] [(0, _)] _ _ _
  show WC _ _ _ _ [] _ _ _ [mcObj bm Em x]
  refine WC.seq ?_
  refine WC.region ?_
  refine WL.assign rfl rfl ?_
  refine WL.assign rfl rfl ?_
  refine WL.nil ?_
  refine WE.then_normal ?_
  refine WC.seq ?_
  refine WC.seq ?_
  refine WC.region ?_
  refine WL.move rfl rfl ?_
  refine WL.callQ 0 okF26_g rfl rfl rfl (there_spec x bm Em bh I hr hhp) ?_
  refine WL.not rfl rfl ?_
  refine WL.move rfl rfl ?_
  refine WL.split 7 rfl (fun h1 => ?_) (fun h1 => ?_)
  · try simp at h1
    all_goals (
      refine WL.guard_no rfl rfl rfl rfl ?_
      refine WL.guard_no rfl rfl rfl rfl ?_
      refine WL.guard_no rfl rfl rfl rfl ?_
      refine WL.guard_no rfl rfl rfl rfl ?_
      refine WL.guard_no rfl rfl rfl rfl ?_
      refine WL.guard_no rfl rfl rfl rfl ?_
      refine WL.pick_true rfl rfl rfl ?_
      refine WL.nil ?_
      refine WE.then_normal ?_
      refine WC.cond_true rfl ?_
      refine WC.seq ?_
      refine WC.region ?_
      refine WL.assign rfl rfl ?_
      refine WL.assign rfl rfl ?_
      refine WL.nil ?_
      refine WE.then_normal ?_
      refine WC.ret ?_
      refine WE.then_ret ?_
      refine WE.retCr rfl (.cons (.tmp rfl) (.cons (.tmp rfl) .nil)) rfl ?_
      refine ⟨?_, rfl, rfl⟩
      simp [tupleOf, *]
    )
  · try simp at h1
    all_goals (
      refine WL.guard_yes rfl rfl ?_
      refine WL.move rfl rfl ?_
      refine WL.guard_yes rfl rfl ?_
      refine WL.nilCheck rfl rfl ?_
      refine WL.guard_yes rfl rfl ?_
      refine WL.fieldAddr rfl tF69_9_g rfl ?_
      refine WL.guard_yes rfl rfl ?_
      refine WL.fieldAddr rfl tF34_0_g rfl ?_
      refine WL.guard_yes rfl rfl ?_
      refine WL.load_own 0 rfl rfl tA30_g (mc27 hr) rfl ?_
      refine WL.guard_yes rfl rfl ?_
      rw [hk]
      refine WL.arith rfl rfl rfl rfl ?_
      refine WL.pick_false rfl rfl rfl ?_
      refine WL.nil ?_
      refine WE.then_normal ?_
      refine WC.condT rfl (fun h2 => ?_) (fun h2 => ?_)
      · try simp at h2
        all_goals (
          refine WC.seq ?_
          refine WC.region ?_
          refine WL.assign rfl rfl ?_
          refine WL.assign rfl rfl ?_
          refine WL.nil ?_
          refine WE.then_normal ?_
          refine WC.ret ?_
          refine WE.then_ret ?_
          refine WE.retCr rfl (.cons (.tmp rfl) (.cons (.tmp rfl) .nil)) rfl ?_
          refine ⟨?_, rfl, rfl⟩
          simp [tupleOf, *]
        )
      · try simp at h2
        all_goals (
          refine WC.skip ?_
          refine WE.then_normal ?_
          refine WC.seq ?_
          refine WC.region ?_
          refine WL.move rfl rfl ?_
          refine WL.nilCheck rfl rfl ?_
          refine WL.fieldAddr rfl tF69_4_g rfl ?_
          refine WL.load_own 0 rfl rfl tA3_g (mc22 hr) rfl ?_
          rw [ha]
          refine WL.assign rfl rfl ?_
          refine WL.assign rfl rfl ?_
          refine WL.nil ?_
          refine WE.then_normal ?_
          refine WC.ret ?_
          refine WE.retCr rfl (.cons (.tmp rfl) (.cons (.tmp rfl) .nil)) rfl ?_
          refine ⟨?_, rfl, rfl⟩
          simp [tupleOf, *]
        )
    )
theorem calls_spec (ki : Int) (A : Option Addr) (m k : Nat) (x : MV) (bm Em bh : Nat) (I : Mem) (hr : x.regs.length = 16) (hhp : x.hp = .pointer (some ⟨bh, 0, none⟩)) (hm : m ≤ 31) (hk : x.kind = .int .u8 ki) (hc : x.cv = .slice A m k) : Spec Tryd.prog 15 [.pointer (some ⟨bm, 0, none⟩)] I (mcObj bm Em x) (fun v I' C' => v = .int .i64 (if ki = 2 then 0 else (m : Int) + 1) ∧ I' = I ∧ C' = mcObj bm Em x) := by
  refine Spec.intro Tryd.func15 rfl rfl fun Γ => ?_
  show WC _ _ _ _ [] [(0, _)] _ _ _
  show WC _ _ _ _ [] _ _ _ [mcObj bm Em x]
  refine WC.seq ?_
  refine WC.region ?_
  refine WL.assign rfl rfl ?_
  refine WL.nil ?_
  refine WE.then_normal ?_
  refine WC.seq ?_
  refine WC.seq ?_
  refine WC.region ?_
  refine WL.move rfl rfl ?_
  refine WL.callQ 0 okF26_g rfl rfl rfl (there_spec x bm Em bh I hr hhp) ?_
  refine WL.not rfl rfl ?_
  refine WL.move rfl rfl ?_
  refine WL.split 6 rfl (fun h1 => ?_) (fun h1 => ?_)
  · try simp at h1
    all_goals (
      refine WL.guard_no rfl rfl rfl rfl ?_
      refine WL.guard_no rfl rfl rfl rfl ?_
      refine WL.guard_no rfl rfl rfl rfl ?_
      refine WL.guard_no rfl rfl rfl rfl ?_
      refine WL.guard_no rfl rfl rfl rfl ?_
      refine WL.guard_no rfl rfl rfl rfl ?_
      refine WL.pick_true rfl rfl rfl ?_
      refine WL.nil ?_
      refine WE.then_normal ?_
      refine WC.cond_true rfl ?_
      refine WC.seq ?_
      refine WC.region ?_
      refine WL.assign rfl rfl ?_
      refine WL.nil ?_
      refine WE.then_normal ?_
      refine WC.ret ?_
      refine WE.then_ret ?_
      refine WE.retCr rfl (.cons (.tmp rfl) .nil) rfl ?_
      refine ⟨?_, rfl, rfl⟩
      simp [tupleOf, *]
    )
  · try simp at h1
    all_goals (
      refine WL.guard_yes rfl rfl ?_
      refine WL.move rfl rfl ?_
      refine WL.guard_yes rfl rfl ?_
      refine WL.nilCheck rfl rfl ?_
      refine WL.guard_yes rfl rfl ?_
      refine WL.fieldAddr rfl tF69_9_g rfl ?_
      refine WL.guard_yes rfl rfl ?_
      refine WL.fieldAddr rfl tF34_0_g rfl ?_
      refine WL.guard_yes rfl rfl ?_
      refine WL.load_own 0 rfl rfl tA30_g (mc27 hr) rfl ?_
      refine WL.guard_yes rfl rfl ?_
      rw [hk]
      refine WL.arith rfl rfl rfl rfl ?_
      refine WL.pick_false rfl rfl rfl ?_
      refine WL.nil ?_
      refine WE.then_normal ?_
      refine WC.condT rfl (fun h2 => ?_) (fun h2 => ?_)
      · try simp at h2
        all_goals (
          refine WC.seq ?_
          refine WC.region ?_
          refine WL.assign rfl rfl ?_
          refine WL.nil ?_
          refine WE.then_normal ?_
          refine WC.ret ?_
          refine WE.then_ret ?_
          refine WE.retCr rfl (.cons (.tmp rfl) .nil) rfl ?_
          refine ⟨?_, rfl, rfl⟩
          simp [tupleOf, *]
        )
      · try simp at h2
        all_goals (
          refine WC.skip ?_
          refine WE.then_normal ?_
          refine WC.seq ?_
          refine WC.region ?_
          refine WL.move rfl rfl ?_
          refine WL.nilCheck rfl rfl ?_
          refine WL.fieldAddr rfl tF69_7_g rfl ?_
          refine WL.load_own 0 rfl rfl tA67_g (mc25 hr) rfl ?_
          rw [hc]
          refine WL.len_slice rfl tE67_g rfl ?_
          first | refine WL.add rfl rfl (by omega) rfl ?_ | refine WL.arith rfl rfl rfl rfl ?_
          refine WL.assign rfl rfl ?_
          refine WL.nil ?_
          refine WE.then_normal ?_
          refine WC.ret ?_
          refine WE.retCr rfl (.cons (.tmp rfl) .nil) rfl ?_
          refine ⟨?_, rfl, rfl⟩
          simp [tupleOf, *]
        )
    )
theorem steps_spec (st : Int) (x : MV) (bm Em bh : Nat) (I : Mem) (hr : x.regs.length = 16) (hhp : x.hp = .pointer (some ⟨bh, 0, none⟩)) (hs : x.steps = .int .i64 st) : Spec Tryd.prog 13 [.pointer (some ⟨bm, 0, none⟩)] I (mcObj bm Em x) (fun v I' C' => v = .int .i64 st ∧ I' = I ∧ C' = mcObj bm Em x) := by
  refine Spec.intro Tryd.func13 rfl rfl fun Γ => ?_
  show WC _ _ _ _ [] [(0, _)] _ _ _
  show WC _ _ _ _ [] _ _ _ [mcObj bm Em x]
  refine WC.seq ?_
  refine WC.region ?_
  refine WL.assign rfl rfl ?_
  refine WL.nil ?_
  refine WE.then_normal ?_
  refine WC.seq ?_
  refine WC.seq ?_
  refine WC.region ?_
  refine WL.move rfl rfl ?_
  refine WL.callQ 0 okF26_g rfl rfl rfl (there_spec x bm Em bh I hr hhp) ?_
  refine WL.not rfl rfl ?_
  refine WL.nil ?_
  refine WE.then_normal ?_
  refine WC.condT rfl (fun h1 => ?_) (fun h1 => ?_)
  · try simp at h1
    try (exfalso; simp at *; done)
    all_goals (
      refine WC.seq ?_
      refine WC.region ?_
      refine WL.assign rfl rfl ?_
      refine WL.nil ?_
      refine WE.then_normal ?_
      refine WC.ret ?_
      refine WE.then_ret ?_
      first | (refine WE.retCr rfl (.cons (.tmp rfl) .nil) rfl ?_; refine ⟨?_, rfl, rfl⟩; rw [hs]; rfl) | skip
    )
  · try simp at h1
    try (exfalso; simp at *; done)
    all_goals (
      refine WC.skip ?_
      refine WE.then_normal ?_
      refine WC.seq ?_
      refine WC.region ?_
      refine WL.move rfl rfl ?_
      refine WL.nilCheck rfl rfl ?_
      refine WL.fieldAddr rfl tF69_10_g rfl ?_
      refine WL.load_own 0 rfl rfl tA3_g (mc32 hr) rfl ?_
      refine WL.assign rfl rfl ?_
      refine WL.nil ?_
      refine WE.then_normal ?_
      refine WC.ret ?_
      first | (refine WE.retCr rfl (.cons (.tmp rfl) .nil) rfl ?_; refine ⟨?_, rfl, rfl⟩; rw [hs]; rfl) | skip
    )
theorem left_spec (A : Option Addr) (m k : Nat) (x : MV) (bm Em bh : Nat) (I : Mem) (hr : x.regs.length = 16) (hhp : x.hp = .pointer (some ⟨bh, 0, none⟩)) (hi : x.iv = .slice A m k) : Spec Tryd.prog 14 [.pointer (some ⟨bm, 0, none⟩)] I (mcObj bm Em x) (fun v I' C' => v = .int .i64 (m : Int) ∧ I' = I ∧ C' = mcObj bm Em x) := by
  refine Spec.intro Tryd.func14 rfl rfl fun Γ => ?_
  show WC _ _ _ _ [] [(0, _)] _ _ _
  show WC _ _ _ _ [] _ _ _ [mcObj bm Em x]
  refine WC.seq ?_
  refine WC.region ?_
  refine WL.assign rfl rfl ?_
  refine WL.nil ?_
  refine WE.then_normal ?_
  refine WC.seq ?_
  refine WC.seq ?_
  refine WC.region ?_
  refine WL.move rfl rfl ?_
  refine WL.callQ 0 okF26_g rfl rfl rfl (there_spec x bm Em bh I hr hhp) ?_
  refine WL.not rfl rfl ?_
  refine WL.nil ?_
  refine WE.then_normal ?_
  refine WC.condT rfl (fun h1 => ?_) (fun h1 => ?_)
  · try simp at h1
    try (exfalso; simp at *; done)
    all_goals (
      refine WC.seq ?_
      refine WC.region ?_
      refine WL.assign rfl rfl ?_
      refine WL.nil ?_
      refine WE.then_normal ?_
      refine WC.ret ?_
      refine WE.then_ret ?_
      first | (refine WE.retCr rfl (.cons (.tmp rfl) .nil) rfl ?_; refine ⟨?_, rfl, rfl⟩; rfl) | skip
    )
  · try simp at h1
    try (exfalso; simp at *; done)
    all_goals (
      refine WC.skip ?_
      refine WE.then_normal ?_
      refine WC.seq ?_
      refine WC.region ?_
      refine WL.move rfl rfl ?_
      refine WL.nilCheck rfl rfl ?_
      refine WL.fieldAddr rfl tF69_8_g rfl ?_
      refine WL.load_own 0 rfl rfl tA27_g (mc26 hr) rfl ?_
      rw [hi]
      refine WL.len_slice rfl tE27_g rfl ?_
      refine WL.assign rfl rfl ?_
      refine WL.nil ?_
      refine WE.then_normal ?_
      refine WC.ret ?_
      first | (refine WE.retCr rfl (.cons (.tmp rfl) .nil) rfl ?_; refine ⟨?_, rfl, rfl⟩; rfl) | skip
    )
theorem register_spec (rs : List Int) (r : Int) (x : MV) (bm Em bh : Nat) (I : Mem) (hr : x.regs.length = 16) (hhp : x.hp = .pointer (some ⟨bh, 0, none⟩)) (hrs : x.regs = ints rs) : Spec Tryd.prog 20 [.pointer (some ⟨bm, 0, none⟩), .int .i64 r] I (mcObj bm Em x) (fun v I' C' => v = .tuple [.int .i64 (if 0 ≤ r ∧ r < 16 then rs.getD r.toNat 0 else 0), .int .i64 (if 0 ≤ r ∧ r < 16 then 0 else 2)].toArray ∧ I' = I ∧ C' = mcObj bm Em x) := by
  refine Spec.intro Tryd.func20 rfl rfl fun Γ => ?_
  show WC _ _ _ _ [] [(0, _), (1, _)] _ _ _
  show WC _ _ _ _ [] _ _ _ [mcObj bm Em x]
  refine WC.seq ?_
  refine WC.region ?_
  refine WL.assign rfl rfl ?_
  refine WL.assign rfl rfl ?_
  refine WL.nil ?_
  refine WE.then_normal ?_
  refine WC.seq ?_
  refine WC.block ?_
  refine WC.seq ?_
  refine WC.region ?_
  refine WL.move rfl rfl ?_
  refine WL.callQ 0 okF26_g rfl rfl rfl (there_spec x bm Em bh I hr hhp) ?_
  refine WL.not rfl rfl ?_
  refine WL.assign rfl rfl ?_
  refine WL.nil ?_
  refine WE.then_normal ?_
  refine WC.condT rfl (fun h1 => ?_) (fun h1 => ?_)
  · try simp at h1
    try (exfalso; first | omega | (simp at *; done))
    all_goals (
      refine WC.seq ?_
      refine WC.region ?_
      refine WL.assign rfl rfl ?_
      refine WL.assign rfl rfl ?_
      refine WL.nil ?_
      refine WE.then_normal ?_
      refine WC.ret ?_
      refine WE.block_ret ?_
      refine WE.then_ret ?_
      first | (refine WE.retCr rfl (.cons (.tmp rfl) (.cons (.tmp rfl) .nil)) rfl ?_; refine ⟨?_, rfl, rfl⟩; rw [if_pos (by omega), if_pos (by omega), List.getD_eq_getElem?_getD, hq]; rfl) | (refine WE.retCr rfl (.cons (.tmp rfl) (.cons (.tmp rfl) .nil)) rfl ?_; refine ⟨?_, rfl, rfl⟩; rw [if_neg (by omega), if_neg (by omega)]; rfl) | skip
    )
  · try simp at h1
    try (exfalso; first | omega | (simp at *; done))
    all_goals (
      refine WC.seq ?_
      refine WC.region ?_
      refine WL.move rfl rfl ?_
      refine WL.arith rfl rfl rfl rfl ?_
      refine WL.move rfl rfl ?_
      refine WL.split 13 rfl (fun h2 => ?_) (fun h2 => ?_)
      · try simp at h2
        try (exfalso; first | omega | (simp at *; done))
        all_goals (
          refine WL.guard_no rfl rfl rfl rfl ?_
          refine WL.guard_no rfl rfl rfl rfl ?_
          refine WL.pick_true rfl rfl rfl ?_
          refine WL.assign rfl rfl ?_
          refine WL.nil ?_
          refine WE.then_normal ?_
          refine WC.cond_true rfl ?_
          refine WC.seq ?_
          refine WC.region ?_
          refine WL.assign rfl rfl ?_
          refine WL.assign rfl rfl ?_
          refine WL.nil ?_
          refine WE.then_normal ?_
          refine WC.ret ?_
          refine WE.block_ret ?_
          refine WE.then_ret ?_
          first | (refine WE.retCr rfl (.cons (.tmp rfl) (.cons (.tmp rfl) .nil)) rfl ?_; refine ⟨?_, rfl, rfl⟩; rw [if_pos (by omega), if_pos (by omega), List.getD_eq_getElem?_getD, hq]; rfl) | (refine WE.retCr rfl (.cons (.tmp rfl) (.cons (.tmp rfl) .nil)) rfl ?_; refine ⟨?_, rfl, rfl⟩; rw [if_neg (by omega), if_neg (by omega)]; rfl) | skip
        )
      · try simp at h2
        try (exfalso; first | omega | (simp at *; done))
        all_goals (
          refine WL.guard_yes rfl rfl ?_
          refine WL.move rfl rfl ?_
          refine WL.guard_yes rfl rfl ?_
          refine WL.arith rfl rfl rfl rfl ?_
          refine WL.pick_false rfl rfl rfl ?_
          refine WL.assign rfl rfl ?_
          refine WL.nil ?_
          refine WE.then_normal ?_
          refine WC.condT rfl (fun h3 => ?_) (fun h3 => ?_)
          · try simp at h3
            try (exfalso; first | omega | (simp at *; done))
            all_goals (
              refine WC.seq ?_
              refine WC.region ?_
              refine WL.assign rfl rfl ?_
              refine WL.assign rfl rfl ?_
              refine WL.nil ?_
              refine WE.then_normal ?_
              refine WC.ret ?_
              refine WE.block_ret ?_
              refine WE.then_ret ?_
              first | (refine WE.retCr rfl (.cons (.tmp rfl) (.cons (.tmp rfl) .nil)) rfl ?_; refine ⟨?_, rfl, rfl⟩; rw [if_pos (by omega), if_pos (by omega), List.getD_eq_getElem?_getD, hq]; rfl) | (refine WE.retCr rfl (.cons (.tmp rfl) (.cons (.tmp rfl) .nil)) rfl ?_; refine ⟨?_, rfl, rfl⟩; rw [if_neg (by omega), if_neg (by omega)]; rfl) | skip
            )
          · try simp at h3
            try (exfalso; first | omega | (simp at *; done))
            all_goals (
              refine WC.skip ?_
              refine WE.block_normal ?_
              refine WE.then_normal ?_
              refine WC.seq ?_
              refine WC.region ?_
              have hl16 : rs.length = 16 := by rw [hrs, ints_len] at hr; exact hr
              obtain ⟨q, hq⟩ : ∃ q, rs[r.toNat]? = some q := ⟨_, List.getElem?_eq_getElem (by omega)⟩
              have hqv : nth (mc x) (0 + 6 + r.toNat * 1) = some (.int .i64 q) := by rw [show 0 + 6 + r.toNat * 1 = 6 + r.toNat by omega, mc_reg hr (by omega), hrs]; simp [ints, hq]
              refine WL.move rfl rfl ?_
              refine WL.move rfl rfl ?_
              refine WL.nilCheck rfl rfl ?_
              refine WL.fieldAddr rfl tF69_3_g rfl ?_
              refine WL.indexAddr_arr rfl rfl tAr66_g tS2_g rfl (by first | omega) ?_
              refine WL.load_own 0 rfl rfl tA2_g hqv rfl ?_
              refine WL.assign rfl rfl ?_
              refine WL.assign rfl rfl ?_
              refine WL.nil ?_
              refine WE.then_normal ?_
              refine WC.ret ?_
              first | (refine WE.retCr rfl (.cons (.tmp rfl) (.cons (.tmp rfl) .nil)) rfl ?_; refine ⟨?_, rfl, rfl⟩; rw [if_pos (by omega), if_pos (by omega), List.getD_eq_getElem?_getD, hq]; rfl) | (refine WE.retCr rfl (.cons (.tmp rfl) (.cons (.tmp rfl) .nil)) rfl ?_; refine ⟨?_, rfl, rfl⟩; rw [if_neg (by omega), if_neg (by omega)]; rfl) | skip
            )
        )
    )
end Go.Proofs.YtddkkmdbolgnlaaDoor.Fw
