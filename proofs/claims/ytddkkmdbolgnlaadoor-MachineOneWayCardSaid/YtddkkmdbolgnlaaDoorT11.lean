/- A part of the proof: steps of the walk and laws that the claim's theorem rests on; each lemma states its own conditions. -/
import Derived.Test.YtddkkmdbolgnlaaDoorT10
import Derived.Test.YtddkkmdbolgnlaaDoorWalkD
import Derived.Test.YtddkkmdbolgnlaaDoorProg
set_option linter.unusedVariables false
set_option linter.unusedSimpArgs false
namespace Go.Proofs.YtddkkmdbolgnlaaDoor.Fw
open Go.Proofs
set_option maxRecDepth 100000
set_option linter.unusedVariables false
set_option linter.unusedSimpArgs false
theorem tE23_l : sliceT Tryd.prog 23 = some 64 := by kernel_rfl
theorem tS64_l : szT Tryd.prog 64 = some 3 := by kernel_rfl
theorem tB64_l : bytesT Tryd.prog 64 = some 24 := by kernel_rfl
theorem tZ64_l : zeroT Tryd.prog 64 = some (.agg [(.int .i64 0), (.int .i64 0), (.int .i64 0)].toArray) := by kernel_rfl
theorem tE24_l : sliceT Tryd.prog 24 = some 75 := by kernel_rfl
theorem tS75_l : szT Tryd.prog 75 = some 5 := by kernel_rfl
theorem tB75_l : bytesT Tryd.prog 75 = some 40 := by kernel_rfl
theorem tZ75_l : zeroT Tryd.prog 75 = some (.agg [(.int .u8 0), (.int .i64 0), (.int .i64 0), (.int .i64 0), (.int .i64 0)].toArray) := by kernel_rfl
theorem tE50_l : sliceT Tryd.prog 50 = some 83 := by kernel_rfl
theorem tS83_l : szT Tryd.prog 83 = some 3 := by kernel_rfl
theorem tB83_l : bytesT Tryd.prog 83 = some 24 := by kernel_rfl
theorem tZ83_l : zeroT Tryd.prog 83 = some (.agg [(.int .i64 0), (.int .i64 0), (.int .i64 0)].toArray) := by kernel_rfl
theorem tE27_l : sliceT Tryd.prog 27 = some 2 := by kernel_rfl
theorem tS2_l : szT Tryd.prog 2 = some 1 := by kernel_rfl
theorem tB2_l : bytesT Tryd.prog 2 = some 8 := by kernel_rfl
theorem tZ2_l : zeroT Tryd.prog 2 = some (.int .i64 0) := by kernel_rfl
theorem tE67_l : sliceT Tryd.prog 67 = some 72 := by kernel_rfl
theorem tS72_l : szT Tryd.prog 72 = some 3 := by kernel_rfl
theorem tB72_l : bytesT Tryd.prog 72 = some 24 := by kernel_rfl
theorem tZ72_l : zeroT Tryd.prog 72 = some (.agg [(.int .i64 0), (.int .i64 0), (.int .i64 0)].toArray) := by kernel_rfl
theorem clone_fn (I : Mem) (C : Chunk) (A : Option Addr) (m cap : Nat) (cs : List Value) (hsrc : SrcO I C A cs) (hl : cs.length = m * 3) (hone : cs.all one1 = true) (hm : A = none → m = 0) (hfit : m * 24 ≤ 140737488355328) (h63 : m ≤ 9223372036854775807) :
    Spec Tryd.prog 33 [.slice A m cap] I C (fun v I' C' => I' = I ∧ ∃ A' cap' Cn, v = .slice A' m cap' ∧ SlO 3 cs A' cap' Cn ∧ C' = Cn ++ C) := by
  refine Spec.intro Tryd.func33 rfl rfl fun Γ => ?_
  show WC _ _ _ _ [] [(0, _)] _ _ _
  refine WC.seq ?_
  refine WC.region ?_
  refine WL.assign rfl rfl ?_
  refine WL.nil ?_
  refine WE.then_normal ?_
  refine WC.seq ?_
  refine WC.seq ?_
  refine WC.region ?_
  refine WL.move rfl rfl ?_
  refine WL.slice_eqnil rfl tE23_l rfl ?_
  refine WL.nil ?_
  refine WE.then_normal ?_
  refine WC.condT rfl (fun h1 => ?_) (fun h1 => ?_)
  · try simp at h1
    all_goals (
      refine WC.seq ?_
      refine WC.region ?_
      refine WL.assign rfl rfl ?_
      refine WL.nil ?_
      refine WE.then_normal ?_
      refine WC.ret ?_
      refine WE.then_ret ?_
      have h0 : m = 0 := hm ‹_›
      subst h0
      have hcs : cs = [] := List.length_eq_zero_iff.1 (by omega)
      subst hcs
      refine WE.retCr rfl (.cons (.tmp rfl) .nil) rfl ?_
      exact ⟨rfl, none, 0, [], rfl, SlO.nil _, rfl⟩
    )
  · try simp at h1
    all_goals (
      refine WC.skip ?_
      refine WE.then_normal ?_
      refine WC.seq ?_
      refine WC.region ?_
      refine WL.buildSlice0 tE23_l tS64_l tZ64_l rfl (fun b2 => ?_)
      refine WL.move rfl rfl ?_
      refine WL.append_own 0 rfl rfl tE23_l tS64_l tB64_l tZ64_l rfl rfl rfl (fun C' => rfl) (sz := 3) (cs := []) (.inr ⟨_, [], _, rfl, rfl, by simp, by omega⟩) rfl (hsrc.src (k := 1) rfl tE23_l hl hone hm) (by omega) (by omega) rfl (fun A' cap' C' hC' => ?_)
      rw [Nat.zero_add, List.nil_append] at *
      refine WL.assign rfl rfl ?_
      refine WL.nil ?_
      refine WE.then_normal ?_
      refine WC.ret ?_
      refine WE.perm (fun w hs => hs.join) ?_
      refine WE.retCr rfl (.cons (.tmp rfl) .nil) rfl ?_
      exact ⟨rfl, A', cap', C', rfl, hC', rfl⟩
    )
theorem clone_instr (I : Mem) (C : Chunk) (A : Option Addr) (m cap : Nat) (cs : List Value) (hsrc : SrcO I C A cs) (hl : cs.length = m * 5) (hone : cs.all one1 = true) (hm : A = none → m = 0) (hfit : m * 40 ≤ 140737488355328) (h63 : m ≤ 9223372036854775807) :
    Spec Tryd.prog 34 [.slice A m cap] I C (fun v I' C' => I' = I ∧ ∃ A' cap' Cn, v = .slice A' m cap' ∧ SlO 5 cs A' cap' Cn ∧ C' = Cn ++ C) := by
  refine Spec.intro Tryd.func34 rfl rfl fun Γ => ?_
  show WC _ _ _ _ [] [(0, _)] _ _ _
  refine WC.seq ?_
  refine WC.region ?_
  refine WL.assign rfl rfl ?_
  refine WL.nil ?_
  refine WE.then_normal ?_
  refine WC.seq ?_
  refine WC.seq ?_
  refine WC.region ?_
  refine WL.move rfl rfl ?_
  refine WL.slice_eqnil rfl tE24_l rfl ?_
  refine WL.nil ?_
  refine WE.then_normal ?_
  refine WC.condT rfl (fun h1 => ?_) (fun h1 => ?_)
  · try simp at h1
    all_goals (
      refine WC.seq ?_
      refine WC.region ?_
      refine WL.assign rfl rfl ?_
      refine WL.nil ?_
      refine WE.then_normal ?_
      refine WC.ret ?_
      refine WE.then_ret ?_
      have h0 : m = 0 := hm ‹_›
      subst h0
      have hcs : cs = [] := List.length_eq_zero_iff.1 (by omega)
      subst hcs
      refine WE.retCr rfl (.cons (.tmp rfl) .nil) rfl ?_
      exact ⟨rfl, none, 0, [], rfl, SlO.nil _, rfl⟩
    )
  · try simp at h1
    all_goals (
      refine WC.skip ?_
      refine WE.then_normal ?_
      refine WC.seq ?_
      refine WC.region ?_
      refine WL.buildSlice0 tE24_l tS75_l tZ75_l rfl (fun b2 => ?_)
      refine WL.move rfl rfl ?_
      refine WL.append_own 0 rfl rfl tE24_l tS75_l tB75_l tZ75_l rfl rfl rfl (fun C' => rfl) (sz := 5) (cs := []) (.inr ⟨_, [], _, rfl, rfl, by simp, by omega⟩) rfl (hsrc.src (k := 1) rfl tE24_l hl hone hm) (by omega) (by omega) rfl (fun A' cap' C' hC' => ?_)
      rw [Nat.zero_add, List.nil_append] at *
      refine WL.assign rfl rfl ?_
      refine WL.nil ?_
      refine WE.then_normal ?_
      refine WC.ret ?_
      refine WE.perm (fun w hs => hs.join) ?_
      refine WE.retCr rfl (.cons (.tmp rfl) .nil) rfl ?_
      exact ⟨rfl, A', cap', C', rfl, hC', rfl⟩
    )
theorem clone_box (I : Mem) (C : Chunk) (A : Option Addr) (m cap : Nat) (cs : List Value) (hsrc : SrcO I C A cs) (hl : cs.length = m * 3) (hone : cs.all one1 = true) (hm : A = none → m = 0) (hfit : m * 24 ≤ 140737488355328) (h63 : m ≤ 9223372036854775807) :
    Spec Tryd.prog 35 [.slice A m cap] I C (fun v I' C' => I' = I ∧ ∃ A' cap' Cn, v = .slice A' m cap' ∧ SlO 3 cs A' cap' Cn ∧ C' = Cn ++ C) := by
  refine Spec.intro Tryd.func35 rfl rfl fun Γ => ?_
  show WC _ _ _ _ [] [(0, _)] _ _ _
  refine WC.seq ?_
  refine WC.region ?_
  refine WL.assign rfl rfl ?_
  refine WL.nil ?_
  refine WE.then_normal ?_
  refine WC.seq ?_
  refine WC.seq ?_
  refine WC.region ?_
  refine WL.move rfl rfl ?_
  refine WL.slice_eqnil rfl tE50_l rfl ?_
  refine WL.nil ?_
  refine WE.then_normal ?_
  refine WC.condT rfl (fun h1 => ?_) (fun h1 => ?_)
  · try simp at h1
    all_goals (
      refine WC.seq ?_
      refine WC.region ?_
      refine WL.assign rfl rfl ?_
      refine WL.nil ?_
      refine WE.then_normal ?_
      refine WC.ret ?_
      refine WE.then_ret ?_
      have h0 : m = 0 := hm ‹_›
      subst h0
      have hcs : cs = [] := List.length_eq_zero_iff.1 (by omega)
      subst hcs
      refine WE.retCr rfl (.cons (.tmp rfl) .nil) rfl ?_
      exact ⟨rfl, none, 0, [], rfl, SlO.nil _, rfl⟩
    )
  · try simp at h1
    all_goals (
      refine WC.skip ?_
      refine WE.then_normal ?_
      refine WC.seq ?_
      refine WC.region ?_
      refine WL.buildSlice0 tE50_l tS83_l tZ83_l rfl (fun b2 => ?_)
      refine WL.move rfl rfl ?_
      refine WL.append_own 0 rfl rfl tE50_l tS83_l tB83_l tZ83_l rfl rfl rfl (fun C' => rfl) (sz := 3) (cs := []) (.inr ⟨_, [], _, rfl, rfl, by simp, by omega⟩) rfl (hsrc.src (k := 1) rfl tE50_l hl hone hm) (by omega) (by omega) rfl (fun A' cap' C' hC' => ?_)
      rw [Nat.zero_add, List.nil_append] at *
      refine WL.assign rfl rfl ?_
      refine WL.nil ?_
      refine WE.then_normal ?_
      refine WC.ret ?_
      refine WE.perm (fun w hs => hs.join) ?_
      refine WE.retCr rfl (.cons (.tmp rfl) .nil) rfl ?_
      exact ⟨rfl, A', cap', C', rfl, hC', rfl⟩
    )
theorem clone_int (I : Mem) (C : Chunk) (A : Option Addr) (m cap : Nat) (cs : List Value) (hsrc : SrcO I C A cs) (hl : cs.length = m * 1) (hone : cs.all one1 = true) (hm : A = none → m = 0) (hfit : m * 8 ≤ 140737488355328) (h63 : m ≤ 9223372036854775807) :
    Spec Tryd.prog 25 [.slice A m cap] I C (fun v I' C' => I' = I ∧ ∃ A' cap' Cn, v = .slice A' m cap' ∧ SlO 1 cs A' cap' Cn ∧ C' = Cn ++ C) := by
  refine Spec.intro Tryd.func25 rfl rfl fun Γ => ?_
  show WC _ _ _ _ [] [(0, _)] _ _ _
  refine WC.seq ?_
  refine WC.region ?_
  refine WL.assign rfl rfl ?_
  refine WL.nil ?_
  refine WE.then_normal ?_
  refine WC.seq ?_
  refine WC.seq ?_
  refine WC.region ?_
  refine WL.move rfl rfl ?_
  refine WL.slice_eqnil rfl tE27_l rfl ?_
  refine WL.nil ?_
  refine WE.then_normal ?_
  refine WC.condT rfl (fun h1 => ?_) (fun h1 => ?_)
  · try simp at h1
    all_goals (
      refine WC.seq ?_
      refine WC.region ?_
      refine WL.assign rfl rfl ?_
      refine WL.nil ?_
      refine WE.then_normal ?_
      refine WC.ret ?_
      refine WE.then_ret ?_
      have h0 : m = 0 := hm ‹_›
      subst h0
      have hcs : cs = [] := List.length_eq_zero_iff.1 (by omega)
      subst hcs
      refine WE.retCr rfl (.cons (.tmp rfl) .nil) rfl ?_
      exact ⟨rfl, none, 0, [], rfl, SlO.nil _, rfl⟩
    )
  · try simp at h1
    all_goals (
      refine WC.skip ?_
      refine WE.then_normal ?_
      refine WC.seq ?_
      refine WC.region ?_
      refine WL.buildSlice0 tE27_l tS2_l tZ2_l rfl (fun b2 => ?_)
      refine WL.move rfl rfl ?_
      refine WL.append_own 0 rfl rfl tE27_l tS2_l tB2_l tZ2_l rfl rfl rfl (fun C' => rfl) (sz := 1) (cs := []) (.inr ⟨_, [], _, rfl, rfl, by simp, by omega⟩) rfl (hsrc.src (k := 1) rfl tE27_l hl hone hm) (by omega) (by omega) rfl (fun A' cap' C' hC' => ?_)
      rw [Nat.zero_add, List.nil_append] at *
      refine WL.assign rfl rfl ?_
      refine WL.nil ?_
      refine WE.then_normal ?_
      refine WC.ret ?_
      refine WE.perm (fun w hs => hs.join) ?_
      refine WE.retCr rfl (.cons (.tmp rfl) .nil) rfl ?_
      exact ⟨rfl, A', cap', C', rfl, hC', rfl⟩
    )
theorem clone_call (I : Mem) (C : Chunk) (A : Option Addr) (m cap : Nat) (cs : List Value) (hsrc : SrcO I C A cs) (hl : cs.length = m * 3) (hone : cs.all one1 = true) (hm : A = none → m = 0) (hfit : m * 24 ≤ 140737488355328) (h63 : m ≤ 9223372036854775807) :
    Spec Tryd.prog 29 [.slice A m cap] I C (fun v I' C' => I' = I ∧ ∃ A' cap' Cn, v = .slice A' m cap' ∧ SlO 3 cs A' cap' Cn ∧ C' = Cn ++ C) := by
  refine Spec.intro Tryd.func29 rfl rfl fun Γ => ?_
  show WC _ _ _ _ [] [(0, _)] _ _ _
  refine WC.seq ?_
  refine WC.region ?_
  refine WL.assign rfl rfl ?_
  refine WL.nil ?_
  refine WE.then_normal ?_
  refine WC.seq ?_
  refine WC.seq ?_
  refine WC.region ?_
  refine WL.move rfl rfl ?_
  refine WL.slice_eqnil rfl tE67_l rfl ?_
  refine WL.nil ?_
  refine WE.then_normal ?_
  refine WC.condT rfl (fun h1 => ?_) (fun h1 => ?_)
  · try simp at h1
    all_goals (
      refine WC.seq ?_
      refine WC.region ?_
      refine WL.assign rfl rfl ?_
      refine WL.nil ?_
      refine WE.then_normal ?_
      refine WC.ret ?_
      refine WE.then_ret ?_
      have h0 : m = 0 := hm ‹_›
      subst h0
      have hcs : cs = [] := List.length_eq_zero_iff.1 (by omega)
      subst hcs
      refine WE.retCr rfl (.cons (.tmp rfl) .nil) rfl ?_
      exact ⟨rfl, none, 0, [], rfl, SlO.nil _, rfl⟩
    )
  · try simp at h1
    all_goals (
      refine WC.skip ?_
      refine WE.then_normal ?_
      refine WC.seq ?_
      refine WC.region ?_
      refine WL.buildSlice0 tE67_l tS72_l tZ72_l rfl (fun b2 => ?_)
      refine WL.move rfl rfl ?_
      refine WL.append_own 0 rfl rfl tE67_l tS72_l tB72_l tZ72_l rfl rfl rfl (fun C' => rfl) (sz := 3) (cs := []) (.inr ⟨_, [], _, rfl, rfl, by simp, by omega⟩) rfl (hsrc.src (k := 1) rfl tE67_l hl hone hm) (by omega) (by omega) rfl (fun A' cap' C' hC' => ?_)
      rw [Nat.zero_add, List.nil_append] at *
      refine WL.assign rfl rfl ?_
      refine WL.nil ?_
      refine WE.then_normal ?_
      refine WC.ret ?_
      refine WE.perm (fun w hs => hs.join) ?_
      refine WE.retCr rfl (.cons (.tmp rfl) .nil) rfl ?_
      exact ⟨rfl, A', cap', C', rfl, hC', rfl⟩
    )
end Go.Proofs.YtddkkmdbolgnlaaDoor.Fw
