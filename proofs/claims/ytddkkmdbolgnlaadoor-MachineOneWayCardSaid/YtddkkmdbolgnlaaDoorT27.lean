/- A part of the proof: steps of the walk and laws that the claim's theorem rests on; each lemma states its own conditions. -/
import Derived.Test.YtddkkmdbolgnlaaDoorT26
import Derived.Test.YtddkkmdbolgnlaaDoorWalkG
import Derived.Test.YtddkkmdbolgnlaaDoorProg
set_option linter.unusedVariables false
set_option linter.unusedSimpArgs false
namespace Go.Proofs.YtddkkmdbolgnlaaDoor.Fw
open Go.Proofs
set_option maxRecDepth 100000
set_option linter.unusedVariables false
set_option linter.unusedSimpArgs false
theorem kF83_0_bb : fk Tryd.prog 83 0 = some (3, 0) := by kernel_rfl
theorem tI3_bb : intT Tryd.prog 3 = some .i64 := by kernel_rfl
theorem kC3_bb : Tryd.prog.cellsOf 3 = 1 := by kernel_rfl
theorem kF83_1_bb : fk Tryd.prog 83 1 = some (3, 1) := by kernel_rfl
theorem kF83_2_bb : fk Tryd.prog 83 2 = some (3, 2) := by kernel_rfl
theorem kF64_0_bb : fk Tryd.prog 64 0 = some (3, 0) := by kernel_rfl
theorem kF64_1_bb : fk Tryd.prog 64 1 = some (3, 1) := by kernel_rfl
theorem kF64_2_bb : fk Tryd.prog 64 2 = some (3, 2) := by kernel_rfl
theorem kF75_0_bb : fk Tryd.prog 75 0 = some (73, 0) := by kernel_rfl
theorem tI73_bb : intT Tryd.prog 73 = some .u8 := by kernel_rfl
theorem kC73_bb : Tryd.prog.cellsOf 73 = 1 := by kernel_rfl
theorem kF75_1_bb : fk Tryd.prog 75 1 = some (3, 1) := by kernel_rfl
theorem kF75_2_bb : fk Tryd.prog 75 2 = some (3, 2) := by kernel_rfl
theorem kF75_3_bb : fk Tryd.prog 75 3 = some (3, 3) := by kernel_rfl
theorem kF75_4_bb : fk Tryd.prog 75 4 = some (2, 4) := by kernel_rfl
theorem tI2_bb : intT Tryd.prog 2 = some .i64 := by kernel_rfl
theorem kC2_bb : Tryd.prog.cellsOf 2 = 1 := by kernel_rfl
theorem kF52_0_bb : fk Tryd.prog 52 0 = some (3, 0) := by kernel_rfl
theorem kF52_1_bb : fk Tryd.prog 52 1 = some (50, 1) := by kernel_rfl
theorem kC50_bb : Tryd.prog.cellsOf 50 = 1 := by kernel_rfl
theorem tE50_bb : sliceT Tryd.prog 50 = some 83 := by kernel_rfl
theorem kC83_bb : Tryd.prog.cellsOf 83 = 3 := by kernel_rfl
theorem kF26_0_bb : fk Tryd.prog 26 0 = some (22, 0) := by kernel_rfl
theorem kC22_bb : Tryd.prog.cellsOf 22 = 1 := by kernel_rfl
theorem tE22_bb : sliceT Tryd.prog 22 = some 52 := by kernel_rfl
theorem kC52_bb : Tryd.prog.cellsOf 52 = 2 := by kernel_rfl
theorem kF26_1_bb : fk Tryd.prog 26 1 = some (23, 1) := by kernel_rfl
theorem kC23_bb : Tryd.prog.cellsOf 23 = 1 := by kernel_rfl
theorem tE23_bb : sliceT Tryd.prog 23 = some 64 := by kernel_rfl
theorem kC64_bb : Tryd.prog.cellsOf 64 = 3 := by kernel_rfl
theorem kF26_2_bb : fk Tryd.prog 26 2 = some (24, 2) := by kernel_rfl
theorem kC24_bb : Tryd.prog.cellsOf 24 = 1 := by kernel_rfl
theorem tE24_bb : sliceT Tryd.prog 24 = some 75 := by kernel_rfl
theorem kC75_bb : Tryd.prog.cellsOf 75 = 5 := by kernel_rfl
theorem kF26_3_bb : fk Tryd.prog 26 3 = some (3, 3) := by kernel_rfl
theorem tE27_bb : sliceT Tryd.prog 27 = some 2 := by kernel_rfl
theorem open_box {H : Type} {enc : TypeId × Value → H} {w : World} {base : Nat} {spare : Nat → Bool} {held : Bool} {fuel : Nat} {cs : List Value} {x : DataW H × List MemPlace} (hl : cs.length = 3) (h : DataW.trod enc Tryd.prog w base spare held fuel 83 cs = some x) : ∃ a, BoxR (memOf w) a cs := by
  obtain ⟨m0, h0, w0⟩ := (open_fint kF83_0_bb tI3_bb kC3_bb h)
  obtain ⟨m1, h1, w1⟩ := (open_fint kF83_1_bb tI3_bb kC3_bb h)
  obtain ⟨m2, h2, w2⟩ := (open_fint kF83_2_bb tI3_bb kC3_bb h)
  match cs, hl with
  | [a, b, c], _ =>
    simp at h0 h1 h2
    subst h0; subst h1; subst h2
    exact ⟨⟨m0, m1, m2⟩, rfl, wf_i64 w0, wf_i64 w1, wf_i64 w2⟩
theorem open_fn {H : Type} {enc : TypeId × Value → H} {w : World} {base : Nat} {spare : Nat → Bool} {held : Bool} {fuel : Nat} {cs : List Value} {x : DataW H × List MemPlace} (hl : cs.length = 3) (h : DataW.trod enc Tryd.prog w base spare held fuel 64 cs = some x) : ∃ a, FnR (memOf w) a cs := by
  obtain ⟨m0, h0, w0⟩ := (open_fint kF64_0_bb tI3_bb kC3_bb h)
  obtain ⟨m1, h1, w1⟩ := (open_fint kF64_1_bb tI3_bb kC3_bb h)
  obtain ⟨m2, h2, w2⟩ := (open_fint kF64_2_bb tI3_bb kC3_bb h)
  match cs, hl with
  | [a, b, c], _ =>
    simp at h0 h1 h2
    subst h0; subst h1; subst h2
    exact ⟨⟨m0, m1, m2⟩, rfl, wf_i64 w0, wf_i64 w1, wf_i64 w2⟩
theorem open_instr {H : Type} {enc : TypeId × Value → H} {w : World} {base : Nat} {spare : Nat → Bool} {held : Bool} {fuel : Nat} {cs : List Value} {x : DataW H × List MemPlace} (hl : cs.length = 5) (h : DataW.trod enc Tryd.prog w base spare held fuel 75 cs = some x) : ∃ a, InstrR (memOf w) a cs := by
  obtain ⟨m0, h0, w0⟩ := (open_fint kF75_0_bb tI73_bb kC73_bb h)
  obtain ⟨m1, h1, w1⟩ := (open_fint kF75_1_bb tI3_bb kC3_bb h)
  obtain ⟨m2, h2, w2⟩ := (open_fint kF75_2_bb tI3_bb kC3_bb h)
  obtain ⟨m3, h3, w3⟩ := (open_fint kF75_3_bb tI3_bb kC3_bb h)
  obtain ⟨m4, h4, w4⟩ := (open_fint kF75_4_bb tI2_bb kC2_bb h)
  match cs, hl with
  | [a, b, c, d, e], _ =>
    simp at h0 h1 h2 h3 h4
    subst h0; subst h1; subst h2; subst h3; subst h4
    exact ⟨⟨m0, m1, m2, m3, m4⟩, rfl, wf_u8 w0, wf_i64 w1, wf_i64 w2, wf_i64 w3, wf_i64 w4⟩
theorem open_shape {H : Type} {enc : TypeId × Value → H} {w : World} {base : Nat} {spare : Nat → Bool} {held : Bool} {fuel : Nat} {cs : List Value} {x : DataW H × List MemPlace} (hl : cs.length = 2) (h : DataW.trod enc Tryd.prog w base spare held fuel 52 cs = some x) : ∃ a, ShapeR (memOf w) a cs := by
  obtain ⟨m0, h0, w0⟩ := (open_fint kF52_0_bb tI3_bb kC3_bb h)
  obtain ⟨n, y, hy⟩ := open_field kF52_1_bb h
  rw [kC50_bb] at hy
  obtain ⟨v, xs, hv, hS⟩ := open_sl tE50_bb kC83_bb (by omega) (fun n cs y hl h => open_box hl h) hy
  have h1 := take1 hv
  match cs, hl with
  | [a, b], _ =>
    simp at h0 h1
    subst h0; subst h1
    obtain ⟨A, cap, rfl, h2, h3, h4⟩ := hS
    exact ⟨⟨m0, xs⟩, A, cap, rfl, h2, h3, h4, wf_i64 w0⟩
theorem open_code {H : Type} {enc : TypeId × Value → H} {w : World} {base : Nat} {spare : Nat → Bool} {held : Bool} {fuel : Nat} {cs : List Value} {x : DataW H × List MemPlace} (hl : cs.length = 4) (h : DataW.trod enc Tryd.prog w base spare held fuel 26 cs = some x) : ∃ v1 v2 v3 c, cs = [v1, v2, v3, .int .i64 c.main] ∧ CodeC (memOf w) c v1 v2 v3 := by
  obtain ⟨n0, y0, hy0⟩ := open_field kF26_0_bb h
  rw [kC22_bb] at hy0
  obtain ⟨v0, xs0, hv0, hS0⟩ := open_sl tE22_bb kC52_bb (by omega) (fun n cs y hl h => open_shape hl h) hy0
  have h0 := take1 hv0
  obtain ⟨n1, y1, hy1⟩ := open_field kF26_1_bb h
  rw [kC23_bb] at hy1
  obtain ⟨v1, xs1, hv1, hS1⟩ := open_sl tE23_bb kC64_bb (by omega) (fun n cs y hl h => open_fn hl h) hy1
  have h1 := take1 hv1
  obtain ⟨n2, y2, hy2⟩ := open_field kF26_2_bb h
  rw [kC24_bb] at hy2
  obtain ⟨v2, xs2, hv2, hS2⟩ := open_sl tE24_bb kC75_bb (by omega) (fun n cs y hl h => open_instr hl h) hy2
  have h2 := take1 hv2
  obtain ⟨m3, h3, w3⟩ := (open_fint kF26_3_bb tI3_bb kC3_bb h)
  match cs, hl with
  | [a, b, c, d], _ =>
    simp at h0 h1 h2 h3
    subst h0; subst h1; subst h2; subst h3
    exact ⟨_, _, _, ⟨xs0, xs1, xs2, m3⟩, rfl, hS0, hS1, hS2, wf_i64 w3⟩
theorem open_input {H : Type} {enc : TypeId × Value → H} {w : World} {base : Nat} {spare : Nat → Bool} {held : Bool} {fuel : Nat} {cs : List Value} {x : DataW H × List MemPlace} (h : DataW.trod enc Tryd.prog w base spare held fuel 27 cs = some x) : ∃ A cap l, cs = [.slice A l.length cap] ∧ SrcO (memOf w) [] A (ints l) ∧ (A = none → l = []) ∧ ∀ r ∈ l, Rg r := by
  obtain ⟨v, xs, hv, hS⟩ := open_sl (R := IntR) tE27_bb kC2_bb (by omega) (fun n cs y hl h => by
    obtain ⟨m, h1, _, h3⟩ := DataW.trod_int Tryd.underlying2 h
    exact ⟨m, h1, wf_i64 h3⟩) h
  obtain ⟨A, cap, rfl, h1, h2, h3⟩ := slV_ints hS
  exact ⟨A, cap, xs, hv, h1, h2, h3⟩
end Go.Proofs.YtddkkmdbolgnlaaDoor.Fw
