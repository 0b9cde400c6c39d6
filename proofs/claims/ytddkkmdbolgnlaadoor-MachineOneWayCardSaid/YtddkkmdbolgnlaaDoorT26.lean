/- The law MachineOneWay, walked: it returns true at every code, every input, every two numbers of steps. Conditions: the arguments stand in memory as their types say; the table of spaces is laid. -/
import Derived.Test.YtddkkmdbolgnlaaDoorT25
import Derived.Test.YtddkkmdbolgnlaaDoorProg
set_option linter.unusedVariables false
set_option linter.unusedSimpArgs false
namespace Go.Proofs.YtddkkmdbolgnlaaDoor.Fw
open Go.Proofs
set_option maxRecDepth 100000
set_option linter.unusedVariables false
set_option linter.unusedSimpArgs false
theorem tA26_aa : aggT Tryd.prog 26 = some true := by kernel_rfl
theorem tS26_aa : szT Tryd.prog 26 = some 4 := by kernel_rfl
theorem okF4_aa : okFn Tryd.prog 4 Tryd.f4 := ⟨Tryd.func4, by kernel_rfl, rfl⟩
theorem okF5_aa : okFn Tryd.prog 5 Tryd.f5 := ⟨Tryd.func5, by kernel_rfl, rfl⟩
theorem tE27_aa : sliceT Tryd.prog 27 = some 2 := by kernel_rfl
theorem okF6_aa : okFn Tryd.prog 6 Tryd.f6 := ⟨Tryd.func6, by kernel_rfl, rfl⟩
theorem tZ34_aa : zeroT Tryd.prog 34 = some (.agg [(.int .u8 0), (.int .i64 0), (.int .u8 0), (.int .u8 0), (.slice none 0 0)].toArray) := by kernel_rfl
theorem tS34_aa : szT Tryd.prog 34 = some 5 := by kernel_rfl
theorem okF7_aa : okFn Tryd.prog 7 Tryd.f7 := ⟨Tryd.func7, by kernel_rfl, rfl⟩
theorem tP38_aa : ptrT Tryd.prog 38 = true := by kernel_rfl
theorem tF34_4_aa : offT Tryd.prog 34 4 = some 4 := by kernel_rfl
theorem tA27_aa : aggT Tryd.prog 27 = some false := by kernel_rfl
theorem okF8_aa : okFn Tryd.prog 8 Tryd.f8 := ⟨Tryd.func8, by kernel_rfl, rfl⟩
theorem tF34_0_aa : offT Tryd.prog 34 0 = some 0 := by kernel_rfl
theorem tA30_aa : aggT Tryd.prog 30 = some false := by kernel_rfl
theorem tA34_aa : aggT Tryd.prog 34 = some true := by kernel_rfl
theorem okF9_aa : okFn Tryd.prog 9 Tryd.f9 := ⟨Tryd.func9, by kernel_rfl, rfl⟩
theorem okF10_aa : okFn Tryd.prog 10 Tryd.f10 := ⟨Tryd.func10, by kernel_rfl, rfl⟩
theorem okF11_aa : okFn Tryd.prog 11 Tryd.f11 := ⟨Tryd.func11, by kernel_rfl, rfl⟩
theorem tMixed_aa : Tryd.prog.follows .mixedOrders = true := by kernel_rfl
theorem okF12_aa : okFn Tryd.prog 12 Tryd.f12 := ⟨Tryd.func12, by kernel_rfl, rfl⟩
theorem okF13_aa : okFn Tryd.prog 13 Tryd.f13 := ⟨Tryd.func13, by kernel_rfl, rfl⟩
theorem okF14_aa : okFn Tryd.prog 14 Tryd.f14 := ⟨Tryd.func14, by kernel_rfl, rfl⟩
theorem okF15_aa : okFn Tryd.prog 15 Tryd.f15 := ⟨Tryd.func15, by kernel_rfl, rfl⟩
theorem okF16_aa : okFn Tryd.prog 16 Tryd.f16 := ⟨Tryd.func16, by kernel_rfl, rfl⟩
theorem tE47_aa : sliceT Tryd.prog 47 = some 3 := by kernel_rfl
theorem tS3_aa : szT Tryd.prog 3 = some 1 := by kernel_rfl
theorem tA3_aa : aggT Tryd.prog 3 = some false := by kernel_rfl
theorem alike_eq {m m' : MachD} (e : m' = m) (A B : Option Addr) (k1 k2 : Nat) (I : Mem) (hA : RowA I A (ints m.printed)) (hB : RowA I B (ints m'.printed)) (hl1 : m.printed.length ≤ 16777216) : SpecV Tryd.prog 9 [outV m A k1, outV m' B k2] I (.bool true) := by
  subst e
  exact alike_spec _ A B k1 k2 I hA hB hl1
theorem oneway_spec (c : CodeD) (I : Mem) (v1 v2 v3 : Value) (hc : CodeC I c v1 v2 v3) (hsp : SpTab 0 I) (input : List Int) (Ai : Option Addr) (ki : Nat) (hin : SrcO I [] Ai (ints input)) (hinN : Ai = none → input = []) (hirg : ∀ r ∈ input, Rg r) (a b : Int) : SpecV Tryd.prog 3 [.agg [v1, v2, v3, .int .i64 c.main].toArray, .slice Ai input.length ki, .int .i64 a, .int .i64 b] I (.bool true) := by
  refine SpecV.intro Tryd.func3 rfl rfl fun w0 => ?_
  show WC _ _ _ _ [] [(0, _), (1, _), (2, _), (3, _)] _ _ _
  refine WC.seq ?_
  refine WC.region ?_
  refine WL.box rfl rfl rfl (fun b1 => ?_)
  refine WL.assign rfl rfl ?_
  refine WL.nil ?_
  refine WE.then_normal ?_
  refine WC.seq ?_
  refine WC.seq ?_
  refine WC.region ?_
  refine WL.load_own_agg 0 rfl rfl tA26_aa tS26_aa rfl rfl ?_
  refine WL.callR okF4_aa rfl rfl (fits_spec c I _ _ _ hc) (fun v1 I1 hI1 hv => ?_)
  obtain ⟨hI, bf, rfl⟩ := hv
  have hI := hI.symm
  subst hI
  refine WL.not rfl rfl ?_
  refine WL.move rfl rfl ?_
  refine WL.split 24 rfl (fun h2 => ?_) (fun h2 => ?_)
  · try simp at h2
    try (exfalso; first | omega | (simp at *; done))
    all_goals (
      refine WL.guard_no rfl rfl rfl rfl ?_
      refine WL.guard_no rfl rfl rfl rfl ?_
      refine WL.guard_no rfl rfl rfl rfl ?_
      refine WL.pick_true rfl rfl rfl ?_
      refine WL.nil ?_
      refine WE.then_normal ?_
      refine WC.cond_true rfl ?_
      refine WC.seq ?_
      refine WC.region ?_
      refine WL.callV okF5_aa rfl rfl (awake_spec _ hsp) ?_
      refine WL.assign rfl rfl ?_
      refine WL.nil ?_
      refine WE.then_normal ?_
      refine WC.ret ?_
      refine WE.then_ret ?_
      refine WE.retV [8] rfl rfl rfl ?_
      rfl
    )
  · try simp at h2
    try (exfalso; first | omega | (simp at *; done))
    all_goals (
      refine WL.guard_yes rfl rfl ?_
      refine WL.move rfl rfl ?_
      refine WL.guard_yes rfl rfl ?_
      refine WL.len_slice rfl tE27_aa rfl ?_
      refine WL.guard_yes rfl rfl ?_
      refine WL.arith rfl rfl rfl rfl ?_
      refine WL.pick_false rfl rfl rfl ?_
      refine WL.nil ?_
      refine WE.then_normal ?_
      refine WC.condT rfl (fun h3 => ?_) (fun h3 => ?_)
      · try simp at h3
        try (exfalso; first | omega | (simp at *; done))
        all_goals (
          refine WC.seq ?_
          refine WC.region ?_
          refine WL.callV okF5_aa rfl rfl (awake_spec _ hsp) ?_
          refine WL.assign rfl rfl ?_
          refine WL.nil ?_
          refine WE.then_normal ?_
          refine WC.ret ?_
          refine WE.then_ret ?_
          refine WE.retV [8] rfl rfl rfl ?_
          rfl
        )
      · try simp at h3
        try (exfalso; first | omega | (simp at *; done))
        all_goals (
          refine WC.skip ?_
          refine WE.then_normal ?_
          refine WC.seq ?_
          refine WC.region ?_
          refine WL.move rfl rfl ?_
          refine WL.min_int rfl rfl rfl ?_
          refine WL.max_int rfl rfl rfl ?_
          obtain ⟨ka, hka, hka6⟩ := clampN a
          refine WL.reslot 32 rfl (congrArg (Value.int .i64) hka) ?_
          refine WL.move rfl rfl ?_
          refine WL.min_int rfl rfl rfl ?_
          refine WL.max_int rfl rfl rfl ?_
          obtain ⟨kb, hkb, hkb6⟩ := clampN b
          refine WL.reslot 35 rfl (congrArg (Value.int .i64) hkb) ?_
          refine WL.assign rfl rfl ?_
          refine WL.assign rfl rfl ?_
          refine WL.nil ?_
          refine WE.then_normal ?_
          refine WC.seq ?_
          refine WC.region ?_
          refine WL.load_own_agg 0 rfl rfl tA26_aa tS26_aa rfl rfl ?_
          refine WL.move rfl rfl ?_
          refine WL.move rfl rfl ?_
          by_cases hg : mayC c = true ∧ input.length ≤ 4096
          · refine WL.perm (fun _ hs => hs.nilTop) ?_
            refine WL.callS (dd := some 40) okF6_aa rfl rfl (doN_spec c _ _ _ _ hc hsp input Ai ki hin hinN hirg hg.1 hg.2 ka (by omega)) (fun v2 I2 C2 _ hv => ?_)
            obtain ⟨hI2, A2, kx2, rfl, hN2⟩ := hv
            refine WL.freezeS hN2 (fun I2f hI2f hX1 => ?_)
            have hI2g := Mem.le_trans hI2 hI2f
            have hc := hc.mono hI2g
            have hsp := hsp.mono hI2g
            have hin := hin.mono hI2g
            refine WL.move rfl rfl ?_
            refine WL.extract rfl rfl rfl ?_
            refine WL.extract rfl rfl rfl ?_
            refine WL.alloc tZ34_aa rfl rfl (fun b4 => ?_)
            refine WL.store 0 rfl rfl rfl rfl tS34_aa rfl rfl rfl rfl rfl ?_
            refine WL.assign rfl rfl ?_
            refine WL.nil ?_
            refine WE.then_normal ?_
            refine WC.seq ?_
            refine WC.seq ?_
            refine WC.region ?_
            refine WL.move rfl rfl ?_
            refine WL.arith rfl rfl rfl rfl ?_
            refine WL.nil ?_
            refine WE.then_normal ?_
            refine WC.cond_false rfl ?_
            refine WC.skip ?_
            refine WE.then_normal ?_
            refine WC.seq ?_
            refine WC.region ?_
            refine WL.load_own_agg 1 rfl rfl tA26_aa tS26_aa rfl rfl ?_
            refine WL.move rfl rfl ?_
            refine WL.move rfl rfl ?_
            refine WL.move rfl rfl ?_
            first | refine WL.add rfl rfl (by omega) rfl ?_ | refine WL.arith rfl rfl rfl rfl ?_
            refine WL.reslot 51 rfl (congrArg (Value.int .i64) (Int.natCast_add ka kb).symm) ?_
            refine WL.perm (fun _ hs => hs.nilTop) ?_
            refine WL.callS (dd := some 52) okF6_aa rfl rfl (doN_spec c _ _ _ _ hc hsp input Ai ki hin hinN hirg hg.1 hg.2 (ka + kb) (by omega)) (fun v4 I4 C4 _ hv => ?_)
            obtain ⟨hI4, A4, kx4, rfl, hN4⟩ := hv
            rw [runM_add] at hN4 ⊢
            refine WL.freezeS hN4 (fun I4f hI4f hX2 => ?_)
            have hI4g := Mem.le_trans hI4 hI4f
            have hc := hc.mono hI4g
            have hsp := hsp.mono hI4g
            have hin := hin.mono hI4g
            have hX1 := hX1.mono hI4g
            refine WL.move rfl rfl ?_
            refine WL.extract rfl rfl rfl ?_
            refine WL.extract rfl rfl rfl ?_
            refine WL.alloc tZ34_aa rfl rfl (fun b5 => ?_)
            refine WL.store 0 rfl rfl rfl rfl tS34_aa rfl rfl rfl rfl rfl ?_
            refine WL.assign rfl rfl ?_
            refine WL.nil ?_
            refine WE.then_normal ?_
            refine WC.seq ?_
            refine WC.region ?_
            refine WL.load_own_agg 2 rfl rfl tA26_aa tS26_aa rfl rfl ?_
            refine WL.move rfl rfl ?_
            refine WL.perm (fun _ hs => hs.nilTop) ?_
            refine WL.callS (dd := some 58) okF7_aa rfl rfl (new_spec c _ _ _ _ hc hsp input Ai ki hin hinN hirg hg.1 hg.2) (fun v5 I5 C5 _ hv => ?_)
            obtain ⟨hI5, bm, rfl, hM⟩ := hv
            have hc := hc.mono hI5
            have hsp := hsp.mono hI5
            have hin := hin.mono hI5
            have hX1 := hX1.mono hI5
            have hX2 := hX2.mono hI5
            have hw0 := newM_wf (MayW.of hg.1) hirg hg.2
            obtain ⟨hwa, hsa, _, la, hpa⟩ := runM_wf (codeN hc) ka hw0
            obtain ⟨hwb, hsb, _, lb, hpb⟩ := runM_wf (codeN hc) kb hwa
            have hs0 : (newM c input).steps = 0 := rfl
            rw [hs0] at hsa
            have hpla := hwa.plen
            have hplb := hwb.plen
            have hcla := hwa.clen
            have hclb := hwb.clen
            refine WL.move rfl rfl ?_
            refine WL.extract rfl rfl rfl ?_
            refine WL.extract rfl rfl rfl ?_
            refine WL.assign rfl rfl ?_
            refine WL.assign rfl rfl ?_
            refine WL.nil ?_
            refine WE.then_normal ?_
            refine WC.seq ?_
            refine WC.seq ?_
            refine WC.region ?_
            refine WL.move rfl rfl ?_
            refine WL.ptr_eqnil rfl tP38_aa rfl ?_
            refine WL.move rfl rfl ?_
            refine WL.guard_yes rfl rfl ?_
            refine WL.move rfl rfl ?_
            refine WL.guard_yes rfl rfl ?_
            refine WL.arith rfl rfl rfl rfl ?_
            refine WL.pick_false rfl rfl rfl ?_
            refine WL.move rfl rfl ?_
            refine WL.guard_yes rfl rfl ?_
            refine WL.move rfl rfl ?_
            refine WL.guard_yes rfl rfl ?_
            refine WL.arith rfl rfl rfl rfl ?_
            refine WL.pick_false rfl rfl rfl ?_
            refine WL.move rfl rfl ?_
            refine WL.guard_yes rfl rfl ?_
            refine WL.fieldAddr rfl tF34_4_aa rfl ?_
            refine WL.guard_yes rfl rfl ?_
            refine WL.load_own 2 rfl rfl tA27_aa rfl rfl ?_
            refine WL.guard_yes rfl rfl ?_
            refine WL.fieldAddr rfl tF34_4_aa rfl ?_
            refine WL.guard_yes rfl rfl ?_
            refine WL.load_own 1 rfl rfl tA27_aa rfl rfl ?_
            refine WL.guard_yes rfl rfl ?_
            refine WL.callV okF8_aa rfl rfl (by have h := begins_spec (runM c ka (newM c input)).printed lb A2 A4 kx2 kx4 _ hX1 (by rw [← hpb]; exact hX2) (by omega); rw [← hpb] at h; exact h) ?_
            refine WL.guard_yes rfl rfl ?_
            refine WL.not rfl rfl ?_
            refine WL.pick_false rfl rfl rfl ?_
            refine WL.move rfl rfl ?_
            refine WL.cutV (X := Unit) [0, 1, 2, 3, 4, 8, 9, 10, 11, 12, 13, 14, 15, 16, 17, 18, 19, 20, 21, 22, 23, 24, 25, 26, 27, 28, 29, 30, 31, 32, 33, 34, 35, 36, 37, 38, 39, 40, 41, 42, 43, 44, 45, 46, 47, 48, 49, 50, 51, 52, 53, 54, 55, 56, 57, 58, 59, 60, 61, 62, 63, 64, 65, 66, 67, 68, 69, 70, 71, 72, 73, 74, 75, 76, 77, 78, 79, 95, 96, 97, 98, 99, 100, 101, 102, 103, 104, 105, 106, 107, 108, 109, 110, 111, 112, 113, 114, 115, 116, 117, 118, 119, 120, 121, 122, 123, 124, 125, 126, 127, 128, 129, 130, 131, 132, 133, 134, 135, 136, 137, 138, 139, 140, 141, 142, 143, 144, 145, 146, 147, 148, 149, 150, 151, 152, 153, 154, 155, 156, 157, 158, 159, 160, 161, 162, 163, 164, 165, 166, 167, 168, 169, 170, 171, 172, 173, 174, 175, 176, 177, 178, 179, 180, 181, 182, 183, 184, 185, 186, 187, 188, 189, 190, 191, 192, 193, 194, 195, 196, 197, 198, 199, 200, 201, 202, 203, 204, 205, 206] rfl (fun _ => [(94, .bool (false))]) (fun _ => True) 15 rfl rfl ?_ (fun _ _ => ?_)
            · refine WL.guard_yes rfl rfl ?_
              have hkind := hwa.kind
              refine WL.fieldAddr rfl tF34_0_aa rfl ?_
              refine WL.guard_yes rfl rfl ?_
              refine WL.load_own 2 rfl rfl tA30_aa rfl rfl ?_
              refine WL.guard_yes rfl rfl ?_
              refine WL.arith rfl rfl rfl rfl ?_
              refine WL.guard_yes rfl rfl ?_
              refine WL.move rfl rfl ?_
              refine WL.split 83 rfl (fun h6 => ?_) (fun h6 => ?_)
              · try simp at h6
                try (exfalso; first | omega | (simp at *; done))
                all_goals (
                  refine WL.guard_yes rfl rfl ?_
                  refine WL.load_own_agg 2 rfl rfl tA34_aa tS34_aa rfl rfl ?_
                  refine WL.guard_yes rfl rfl ?_
                  refine WL.load_own_agg 1 rfl rfl tA34_aa tS34_aa rfl rfl ?_
                  refine WL.guard_yes rfl rfl ?_
                  refine WL.callV okF9_aa rfl rfl (alike_eq (runM_stop (by assumption) kb) A2 A4 kx2 kx4 _ hX1 hX2 (by omega)) ?_
                  refine WL.guard_yes rfl rfl ?_
                  refine WL.not rfl rfl ?_
                  refine WL.guard_yes rfl rfl ?_
                  refine WL.pick_true rfl rfl rfl ?_
                  refine WL.pick_false rfl rfl rfl ?_
                  refine WL.move rfl rfl ?_
                  refine WL.guard_yes rfl rfl ?_
                  refine WL.fieldAddr rfl tF34_0_aa rfl ?_
                  refine WL.guard_yes rfl rfl ?_
                  refine WL.load_own 2 rfl rfl tA30_aa rfl rfl ?_
                  refine WL.guard_yes rfl rfl ?_
                  have hkind := hwa.kind
                  refine WL.arith (v := .bool false) rfl rfl (by simp only [Fw.arith]; exact congrArg some (congrArg Value.bool (by simp; omega))) rfl ?_
                  refine WL.pick_false rfl rfl rfl ?_
                  refine WL.nil ?_
                  refine WE.midV () trivial ⟨congrArg (fun b => some (Value.bool b)) (by rfl), trivial⟩ (by repeat (first | exact trivial | refine ⟨rfl, ?_⟩))
                )
              · try simp at h6
                try (exfalso; first | omega | (simp at *; done))
                all_goals (
                  refine WL.guard_no rfl rfl rfl rfl ?_
                  refine WL.guard_no rfl rfl rfl rfl ?_
                  refine WL.guard_no rfl rfl rfl rfl ?_
                  refine WL.guard_no rfl rfl rfl rfl ?_
                  refine WL.guard_yes rfl rfl ?_
                  refine WL.pick_false rfl rfl rfl ?_
                  refine WL.pick_false rfl rfl rfl ?_
                  refine WL.move rfl rfl ?_
                  refine WL.guard_yes rfl rfl ?_
                  refine WL.fieldAddr rfl tF34_0_aa rfl ?_
                  refine WL.guard_yes rfl rfl ?_
                  refine WL.load_own 2 rfl rfl tA30_aa rfl rfl ?_
                  refine WL.guard_yes rfl rfl ?_
                  have hkind := hwa.kind
                  refine WL.arith (v := .bool false) rfl rfl (by simp only [Fw.arith]; exact congrArg some (congrArg Value.bool (by simp; omega))) rfl ?_
                  refine WL.pick_false rfl rfl rfl ?_
                  refine WL.nil ?_
                  refine WE.midV () trivial ⟨congrArg (fun b => some (Value.bool b)) (by rfl), trivial⟩ (by repeat (first | exact trivial | refine ⟨rfl, ?_⟩))
                )
            · refine WL.nil ?_
              refine WE.then_normal ?_
              refine WC.cond_false rfl ?_
              refine WC.skip ?_
              refine WE.then_normal ?_
              refine WC.seq ?_
              refine WC.region ?_
              refine WL.move rfl rfl ?_
              refine WL.move rfl rfl ?_
              refine WL.callS (dd := some 98) okF10_aa rfl rfl (stepN_spec c (newM c input) bm _ _ _ _ ka hM hw0 (by omega) (by rw [hs0]; omega)) (fun v6 I6 C6 _ hv => ?_)
              obtain ⟨hI6, A6, kx6, Cn6, C6', rfl, hN6, rfl, hMa⟩ := hv
              have hI6 := hI6.symm
              subst hI6
              refine WL.perm (fun _ hs => hs.part) ?_
              refine WL.freezeS hN6 (fun I6f hI6f hX6 => ?_)
              have hc := hc.mono hI6f
              have hsp := hsp.mono hI6f
              have hin := hin.mono hI6f
              have hMa := hMa.mono hI6f
              have hX1 := hX1.mono hI6f
              have hX2 := hX2.mono hI6f
              refine WL.move rfl rfl ?_
              refine WL.extract rfl rfl rfl ?_
              refine WL.extract rfl rfl rfl ?_
              refine WL.alloc tZ34_aa rfl rfl (fun b7 => ?_)
              refine WL.store 0 rfl rfl rfl rfl tS34_aa rfl rfl rfl rfl rfl ?_
              refine WL.assign rfl rfl ?_
              refine WL.nil ?_
              refine WE.then_normal ?_
              refine WC.seq ?_
              refine WC.region ?_
              refine WL.move rfl rfl ?_
              refine WL.pick [1, 0, 2, 3, 4] rfl rfl ?_
              refine WL.callS (dd := some 102) okF11_aa rfl rfl (copyM_spec c (runM c ka (newM c input)) bm _ _ _ _ hMa hwa (by omega)) (fun v7 I7 C7 _ hv => ?_)
              obtain ⟨hI7, bd, D, rfl, rfl, hMD⟩ := hv
              have hc := hc.mono hI7
              have hsp := hsp.mono hI7
              have hin := hin.mono hI7
              have hMa := hMa.mono hI7
              have hX1 := hX1.mono hI7
              have hX2 := hX2.mono hI7
              have hX6 := hX6.mono hI7
              refine WL.perm (fun _ hs => hs.part2) ?_
              refine WL.assign rfl rfl ?_
              refine WL.nil ?_
              refine WE.then_normal ?_
              refine WC.seq ?_
              refine WC.region ?_
              refine WL.move rfl rfl ?_
              refine WL.move rfl rfl ?_
              refine WL.pick [1, 0, 2, 3, 4, 5] rfl rfl ?_
              refine WL.callS (dd := some 106) okF10_aa rfl rfl (stepN_spec c (runM c ka (newM c input)) bm _ _ _ _ kb hMa hwa (by omega) (by omega)) (fun v8 I8 C8 _ hv => ?_)
              obtain ⟨hI8, A8, kx8, Cn8, C8', rfl, hN8, rfl, hMb⟩ := hv
              have hI8 := hI8.symm
              subst hI8
              refine WL.perm (fun _ hs => hs.part) ?_
              refine WL.freezeS hN8 (fun I8f hI8f hX8 => ?_)
              have hc := hc.mono hI8f
              have hsp := hsp.mono hI8f
              have hin := hin.mono hI8f
              have hMb := hMb.mono hI8f
              have hX1 := hX1.mono hI8f
              have hX2 := hX2.mono hI8f
              have hX6 := hX6.mono hI8f
              have hMD := hMD.mono hI8f
              refine WL.move rfl rfl ?_
              refine WL.extract rfl rfl rfl ?_
              refine WL.extract rfl rfl rfl ?_
              refine WL.alloc tZ34_aa rfl rfl (fun b8 => ?_)
              refine WL.store 0 rfl rfl rfl rfl tS34_aa rfl rfl rfl rfl rfl ?_
              refine WL.pick [2, 0, 1, 3, 4, 5, 6] rfl rfl ?_
              obtain ⟨hd, Cwd, Ccd, Cpd, hM5d, rfl⟩ := id hMD
              refine WL.perm (fun _ hs => hs.part5) ?_
              have hrd : (mvOf hd c.main (runM c ka (newM c input))).regs.length = 16 := by rw [mvOf, ints_len]; exact hwa.regs
              refine WL.pick [6, 0, 1, 2, 3, 4, 5, 7, 8, 9, 10] rfl rfl ?_
              obtain ⟨hb, Cwb, Ccb, Cpb, hM5b, rfl⟩ := id hMb
              refine WL.perm (fun _ hs => hs.part5) ?_
              have hrb : (mvOf hb c.main (runM c kb (runM c ka (newM c input)))).regs.length = 16 := by rw [mvOf, ints_len]; exact hwb.regs
              refine WL.assign rfl rfl ?_
              refine WL.nil ?_
              refine WE.then_normal ?_
              refine WC.seq ?_
              refine WC.seq ?_
              refine WC.region_staged (g := 37) (e := 13) [0, 1, 2, 3, 4, 5, 6, 7, 8, 9, 10, 11, 12, 13, 14] tMixed_aa rfl rfl (fun hI0 => ?_)
              refine WS.own (k := 0) rfl (by kernel_rfl) (by kernel_rfl) (by kernel_rfl) rfl calm_no ?_
              refine WL.move rfl rfl ?_
              refine WL.nil ?_
              refine WS.onward ?_
              refine WS.own (k := 1) rfl (by kernel_rfl) (by kernel_rfl) (by kernel_rfl) rfl calm_no ?_
              refine WL.ptr_eqnil rfl tP38_aa rfl ?_
              refine WL.nil ?_
              refine WS.onward ?_
              refine WS.own (k := 2) rfl (by kernel_rfl) (by kernel_rfl) (by kernel_rfl) rfl calm_no ?_
              refine WL.move rfl rfl ?_
              refine WL.nil ?_
              refine WS.onward ?_
              refine WS.own (k := 3) rfl (by kernel_rfl) (by kernel_rfl) (by kernel_rfl) rfl calm_no ?_
              refine WL.guard_yes rfl rfl ?_
              refine WL.move rfl rfl ?_
              refine WL.nil ?_
              refine WS.onward ?_
              refine WS.own (k := 4) rfl (by kernel_rfl) (by kernel_rfl) (by kernel_rfl) rfl calm_no ?_
              refine WL.guard_yes rfl rfl ?_
              refine WL.arith rfl rfl rfl rfl ?_
              refine WL.nil ?_
              refine WS.onward ?_
              refine WS.own (k := 5) rfl (by kernel_rfl) (by kernel_rfl) (by kernel_rfl) rfl calm_no ?_
              refine WL.pick_false rfl rfl rfl ?_
              refine WL.nil ?_
              refine WS.onward ?_
              refine WS.own (k := 6) rfl (by kernel_rfl) (by kernel_rfl) (by kernel_rfl) rfl calm_no ?_
              refine WL.move rfl rfl ?_
              refine WL.nil ?_
              refine WS.onward ?_
              refine WS.own (k := 7) rfl (by kernel_rfl) (by kernel_rfl) (by kernel_rfl) rfl calm_no ?_
              refine WL.guard_yes rfl rfl ?_
              refine WL.move rfl rfl ?_
              refine WL.nil ?_
              refine WS.onward ?_
              refine WS.own (k := 8) rfl (by kernel_rfl) (by kernel_rfl) (by kernel_rfl) rfl calm_no ?_
              refine WL.guard_yes rfl rfl ?_
              refine WL.arith rfl rfl rfl rfl ?_
              refine WL.nil ?_
              refine WS.onward ?_
              refine WS.own (k := 9) rfl (by kernel_rfl) (by kernel_rfl) (by kernel_rfl) rfl calm_no ?_
              refine WL.pick_false rfl rfl rfl ?_
              refine WL.nil ?_
              refine WS.onward ?_
              refine WS.own (k := 10) rfl (by kernel_rfl) (by kernel_rfl) (by kernel_rfl) rfl calm_no ?_
              refine WL.move rfl rfl ?_
              refine WL.nil ?_
              refine WS.onward ?_
              refine WS.own (k := 11) rfl (by kernel_rfl) (by kernel_rfl) (by kernel_rfl) rfl calm_no ?_
              refine WL.guard_yes rfl rfl ?_
              refine WL.load_own_agg 11 rfl rfl tA34_aa tS34_aa rfl rfl ?_
              refine WL.nil ?_
              refine WS.onward ?_
              refine WS.own (k := 12) rfl (by kernel_rfl) (by kernel_rfl) (by kernel_rfl) rfl calm_no ?_
              refine WL.guard_yes rfl rfl ?_
              refine WL.load_own_agg 13 rfl rfl tA34_aa tS34_aa rfl rfl ?_
              refine WL.nil ?_
              refine WS.onward ?_
              refine WS.touch (k := 13) rfl (by kernel_rfl) rfl ?_
              refine WL.guard_yes rfl rfl ?_
              refine WL.callV okF9_aa rfl rfl (alike_eq rfl A6 A2 kx6 kx2 _ hX6 hX1 (by omega)) ?_
              refine WL.nil ?_
              refine WS.next (e' := 19) rfl (.inr (pickW (ks := [0, 1, 2, 3, 4, 5, 6, 7, 8, 9, 10, 11, 12, 13, 14]) rfl rfl (Mem.le_refl _) hI0)) ?_
              refine WS.own (k := 14) rfl (by kernel_rfl) (by kernel_rfl) (by kernel_rfl) rfl calm_no ?_
              refine WL.guard_yes rfl rfl ?_
              refine WL.not rfl rfl ?_
              refine WL.nil ?_
              refine WS.onward ?_
              refine WS.own (k := 15) rfl (by kernel_rfl) (by kernel_rfl) (by kernel_rfl) rfl calm_no ?_
              refine WL.pick_false rfl rfl rfl ?_
              refine WL.nil ?_
              refine WS.onward ?_
              refine WS.own (k := 16) rfl (by kernel_rfl) (by kernel_rfl) (by kernel_rfl) rfl calm_no ?_
              refine WL.move rfl rfl ?_
              refine WL.nil ?_
              refine WS.onward ?_
              refine WS.own (k := 17) rfl (by kernel_rfl) (by kernel_rfl) (by kernel_rfl) rfl calm_no ?_
              refine WL.guard_yes rfl rfl ?_
              refine WL.load_own_agg 10 rfl rfl tA34_aa tS34_aa rfl rfl ?_
              refine WL.nil ?_
              refine WS.onward ?_
              refine WS.own (k := 18) rfl (by kernel_rfl) (by kernel_rfl) (by kernel_rfl) rfl calm_no ?_
              refine WL.guard_yes rfl rfl ?_
              refine WL.load_own_agg 12 rfl rfl tA34_aa tS34_aa rfl rfl ?_
              refine WL.nil ?_
              refine WS.onward ?_
              refine WS.touch (k := 19) rfl (by kernel_rfl) rfl ?_
              refine WL.guard_yes rfl rfl ?_
              refine WL.callV okF9_aa rfl rfl (alike_eq rfl A8 A4 kx8 kx4 _ hX8 hX2 (by omega)) ?_
              refine WL.nil ?_
              refine WS.next (e' := 24) rfl (.inr (pickW (ks := [0, 1, 2, 3, 4, 5, 6, 7, 8, 9, 10, 11, 12, 13, 14]) rfl rfl (Mem.le_refl _) hI0)) ?_
              refine WS.own (k := 20) rfl (by kernel_rfl) (by kernel_rfl) (by kernel_rfl) rfl calm_no ?_
              refine WL.guard_yes rfl rfl ?_
              refine WL.not rfl rfl ?_
              refine WL.nil ?_
              refine WS.onward ?_
              refine WS.own (k := 21) rfl (by kernel_rfl) (by kernel_rfl) (by kernel_rfl) rfl calm_no ?_
              refine WL.pick_false rfl rfl rfl ?_
              refine WL.nil ?_
              refine WS.onward ?_
              refine WS.own (k := 22) rfl (by kernel_rfl) (by kernel_rfl) (by kernel_rfl) rfl calm_no ?_
              refine WL.move rfl rfl ?_
              refine WL.nil ?_
              refine WS.onward ?_
              refine WS.own (k := 23) rfl (by kernel_rfl) (by kernel_rfl) (by kernel_rfl) rfl calm_no ?_
              refine WL.guard_yes rfl rfl ?_
              refine WL.move rfl rfl ?_
              refine WL.nil ?_
              refine WS.onward ?_
              refine WS.float (k := 25) rfl (by kernel_rfl) (by kernel_rfl) (by kernel_rfl) rfl calm_no ?_
              refine WL.guard_yes rfl rfl ?_
              refine WL.load_own_agg 13 rfl rfl tA34_aa tS34_aa rfl rfl ?_
              refine WL.nil ?_
              refine WS.onwardF ?_
              refine WS.touch (k := 24) rfl (by kernel_rfl) rfl ?_
              refine WL.guard_yes rfl rfl ?_
              refine WL.pick [5, 9, 0, 1, 2, 3, 4, 6, 7, 8, 10, 11, 12, 13, 14] rfl rfl ?_
              refine WL.perm (fun _ hs => hs.join2) ?_
              refine WL.callS (dd := some 133) okF12_aa rfl rfl (outcome_spec (mvOf hd c.main (runM c ka (newM c input))) bd _ hd.bh _ hrd rfl _ _ _ (runM c ka (newM c input)).printed _ _ _ rfl rfl rfl rfl rfl hM5d.printed (by omega)) (fun v9 I9 C9 _ hv => ?_)
              obtain ⟨hI9, A9, kx9, Cn9, rfl, hN9, rfl⟩ := hv
              have hI9 := hI9.symm
              subst hI9
              refine WL.perm (fun _ hs => hs.part3) ?_
              refine WL.freezeS hN9 (fun I9f hI9f hX9 => ?_)
              have hc := hc.mono hI9f
              have hsp := hsp.mono hI9f
              have hin := hin.mono hI9f
              have hX1 := hX1.mono hI9f
              have hX2 := hX2.mono hI9f
              have hM5d := hM5d.mono hI9f
              have hM5b := hM5b.mono hI9f
              have hMD := hMD.mono hI9f
              have hMb := hMb.mono hI9f
              refine WL.nil ?_
              refine WS.next (e' := 26) rfl (.inr (pickW (ks := [2, 3, 4, 5, 6, 0, 7, 8, 9, 1, 10, 11, 12, 13, 14]) rfl rfl hI9f hI0)) ?_
              refine WS.touch (k := 26) rfl (by kernel_rfl) rfl ?_
              refine WL.guard_yes rfl rfl ?_
              refine WL.callV okF9_aa rfl rfl (alike_eq rfl A9 A2 kx9 kx2 _ hX9 hX1 (by omega)) ?_
              refine WL.nil ?_
              refine WS.next (e' := 31) rfl (.inr (pickW (ks := [2, 3, 4, 5, 6, 0, 7, 8, 9, 1, 10, 11, 12, 13, 14]) rfl rfl hI9f hI0)) ?_
              refine WS.own (k := 27) rfl (by kernel_rfl) (by kernel_rfl) (by kernel_rfl) rfl calm_no ?_
              refine WL.guard_yes rfl rfl ?_
              refine WL.not rfl rfl ?_
              refine WL.nil ?_
              refine WS.onward ?_
              refine WS.own (k := 28) rfl (by kernel_rfl) (by kernel_rfl) (by kernel_rfl) rfl calm_no ?_
              refine WL.pick_false rfl rfl rfl ?_
              refine WL.nil ?_
              refine WS.onward ?_
              refine WS.own (k := 29) rfl (by kernel_rfl) (by kernel_rfl) (by kernel_rfl) rfl calm_no ?_
              refine WL.move rfl rfl ?_
              refine WL.nil ?_
              refine WS.onward ?_
              refine WS.own (k := 30) rfl (by kernel_rfl) (by kernel_rfl) (by kernel_rfl) rfl calm_no ?_
              refine WL.guard_yes rfl rfl ?_
              refine WL.move rfl rfl ?_
              refine WL.nil ?_
              refine WS.onward ?_
              refine WS.float (k := 32) rfl (by kernel_rfl) (by kernel_rfl) (by kernel_rfl) rfl calm_no ?_
              refine WL.guard_yes rfl rfl ?_
              refine WL.move rfl rfl ?_
              refine WL.nil ?_
              refine WS.onwardF ?_
              refine WS.float (k := 33) rfl (by kernel_rfl) (by kernel_rfl) (by kernel_rfl) rfl calm_no ?_
              refine WL.guard_yes rfl rfl ?_
              refine WL.move rfl rfl ?_
              refine WL.nil ?_
              refine WS.onwardF ?_
              refine WS.float (k := 34) rfl (by kernel_rfl) (by kernel_rfl) (by kernel_rfl) rfl calm_no ?_
              refine WL.guard_yes rfl rfl ?_
              first | refine WL.add rfl rfl (by omega) rfl ?_ | refine WL.arith rfl rfl rfl rfl ?_
              refine WL.nil ?_
              refine WS.onwardF ?_
              refine WS.touch (k := 31) rfl (by kernel_rfl) rfl ?_
              refine WL.guard_yes rfl rfl ?_
              refine WL.callQ 2 okF13_aa rfl rfl rfl (steps_spec (runM c kb (runM c ka (newM c input))).steps (mvOf hb c.main (runM c kb (runM c ka (newM c input)))) bm _ hb.bh _ hrb rfl rfl) ?_
              refine WL.nil ?_
              refine WS.next (e' := 37) rfl (.inr (pickW (ks := [2, 3, 4, 5, 6, 0, 7, 8, 9, 1, 10, 11, 12, 13, 14]) rfl rfl hI9f hI0)) ?_
              refine WS.own (k := 35) rfl (by kernel_rfl) (by kernel_rfl) (by kernel_rfl) rfl calm_no ?_
              refine WL.guard_yes rfl rfl ?_
              refine WL.arith (v := .bool false) rfl rfl (by simp only [Fw.arith]; exact congrArg some (congrArg Value.bool (by simp; omega))) rfl ?_
              refine WL.nil ?_
              refine WS.onward ?_
              refine WS.own (k := 36) rfl (by kernel_rfl) (by kernel_rfl) (by kernel_rfl) rfl calm_no ?_
              refine WL.pick_false rfl rfl rfl ?_
              refine WL.nil ?_
              refine WS.onward ?_
              refine WS.doneC (by kernel_rfl) ?_
              refine WE.then_normal ?_
              refine WC.cond_false rfl ?_
              refine WC.skip ?_
              refine WE.then_normal ?_
              refine WC.seq ?_
              refine WC.region ?_
              refine WL.pick [0, 7, 8, 9, 1, 2, 3, 4, 5, 6, 10, 11, 12, 13, 14] rfl rfl ?_
              refine WL.perm (fun _ hs => hs.join5) ?_
              refine WL.move rfl rfl ?_
              refine WL.move rfl rfl ?_
              refine WL.callS (dd := some 149) okF10_aa rfl rfl (stepN_spec c (runM c ka (newM c input)) bd _ _ _ _ kb hMD hwa (by omega) (by omega)) (fun v10 I10 C10 _ hv => ?_)
              obtain ⟨hI10, A10, kx10, Cn10, C10', rfl, hN10, rfl, hMD2⟩ := hv
              have hI10 := hI10.symm
              subst hI10
              refine WL.perm (fun _ hs => hs.part) ?_
              refine WL.freezeS hN10 (fun I10f hI10f hX10 => ?_)
              have hc := hc.mono hI10f
              have hsp := hsp.mono hI10f
              have hin := hin.mono hI10f
              have hMD2 := hMD2.mono hI10f
              have hX1 := hX1.mono hI10f
              have hX2 := hX2.mono hI10f
              have hMb := hMb.mono hI10f
              refine WL.move rfl rfl ?_
              refine WL.extract rfl rfl rfl ?_
              refine WL.extract rfl rfl rfl ?_
              refine WL.alloc tZ34_aa rfl rfl (fun b9 => ?_)
              refine WL.store 0 rfl rfl rfl rfl tS34_aa rfl rfl rfl rfl rfl ?_
              refine WL.assign rfl rfl ?_
              refine WL.nil ?_
              refine WE.then_normal ?_
              refine WC.seq ?_
              refine WC.seq ?_
              refine WC.region ?_
              refine WL.pick [1, 0, 2, 3, 4, 5, 6, 7, 8, 9, 10, 11] rfl rfl ?_
              obtain ⟨he, Cwe, Cce, Cpe, hM5e, rfl⟩ := id hMD2
              refine WL.perm (fun _ hs => hs.part5) ?_
              have hre : (mvOf he c.main (runM c kb (runM c ka (newM c input)))).regs.length = 16 := by rw [mvOf, ints_len]; exact hwb.regs
              refine WL.move rfl rfl ?_
              refine WL.arith rfl rfl rfl rfl ?_
              refine WL.move rfl rfl ?_
              refine WL.guard_yes rfl rfl ?_
              refine WL.load_own_agg 5 rfl rfl tA34_aa tS34_aa rfl rfl ?_
              refine WL.guard_yes rfl rfl ?_
              refine WL.load_own_agg 13 rfl rfl tA34_aa tS34_aa rfl rfl ?_
              refine WL.guard_yes rfl rfl ?_
              refine WL.callV okF9_aa rfl rfl (alike_eq rfl A10 A4 kx10 kx4 _ hX10 hX2 (by omega)) ?_
              refine WL.guard_yes rfl rfl ?_
              refine WL.not rfl rfl ?_
              refine WL.pick_false rfl rfl rfl ?_
              refine WL.move rfl rfl ?_
              refine WL.guard_yes rfl rfl ?_
              refine WL.move rfl rfl ?_
              refine WL.guard_yes rfl rfl ?_
              refine WL.callQ 0 okF13_aa rfl rfl rfl (steps_spec (runM c kb (runM c ka (newM c input))).steps (mvOf he c.main (runM c kb (runM c ka (newM c input)))) bd _ he.bh _ hre rfl rfl) ?_
              refine WL.guard_yes rfl rfl ?_
              refine WL.move rfl rfl ?_
              refine WL.guard_yes rfl rfl ?_
              refine WL.callQ 6 okF13_aa rfl rfl rfl (steps_spec (runM c kb (runM c ka (newM c input))).steps (mvOf hb c.main (runM c kb (runM c ka (newM c input)))) bm _ hb.bh _ hrb rfl rfl) ?_
              refine WL.guard_yes rfl rfl ?_
              refine WL.arith (v := .bool false) rfl rfl (by simp only [Fw.arith]; exact congrArg some (congrArg Value.bool (by simp))) rfl ?_
              refine WL.pick_false rfl rfl rfl ?_
              refine WL.move rfl rfl ?_
              refine WL.guard_yes rfl rfl ?_
              refine WL.move rfl rfl ?_
              refine WL.guard_yes rfl rfl ?_
              refine WL.callQ 0 okF14_aa rfl rfl rfl (left_spec he.Ai (runM c kb (runM c ka (newM c input))).input.length he.ki (mvOf he c.main (runM c kb (runM c ka (newM c input)))) bd _ he.bh _ hre rfl rfl) ?_
              refine WL.guard_yes rfl rfl ?_
              refine WL.move rfl rfl ?_
              refine WL.guard_yes rfl rfl ?_
              refine WL.callQ 6 okF14_aa rfl rfl rfl (left_spec hb.Ai (runM c kb (runM c ka (newM c input))).input.length hb.ki (mvOf hb c.main (runM c kb (runM c ka (newM c input)))) bm _ hb.bh _ hrb rfl rfl) ?_
              refine WL.guard_yes rfl rfl ?_
              refine WL.arith (v := .bool false) rfl rfl (by simp only [Fw.arith]; exact congrArg some (congrArg Value.bool (by simp))) rfl ?_
              refine WL.pick_false rfl rfl rfl ?_
              refine WL.move rfl rfl ?_
              refine WL.guard_yes rfl rfl ?_
              refine WL.move rfl rfl ?_
              refine WL.guard_yes rfl rfl ?_
              refine WL.callQ 0 okF15_aa rfl rfl rfl (calls_spec (runM c kb (runM c ka (newM c input))).kind he.Ac (runM c kb (runM c ka (newM c input))).calls.length he.kc (mvOf he c.main (runM c kb (runM c ka (newM c input)))) bd _ he.bh _ hre rfl hclb rfl rfl) ?_
              refine WL.guard_yes rfl rfl ?_
              refine WL.move rfl rfl ?_
              refine WL.guard_yes rfl rfl ?_
              refine WL.callQ 6 okF15_aa rfl rfl rfl (calls_spec (runM c kb (runM c ka (newM c input))).kind hb.Ac (runM c kb (runM c ka (newM c input))).calls.length hb.kc (mvOf hb c.main (runM c kb (runM c ka (newM c input)))) bm _ hb.bh _ hrb rfl hclb rfl rfl) ?_
              refine WL.guard_yes rfl rfl ?_
              refine WL.arith (v := .bool false) rfl rfl (by simp only [Fw.arith]; exact congrArg some (congrArg Value.bool (by simp))) rfl ?_
              refine WL.pick_false rfl rfl rfl ?_
              refine WL.nil ?_
              refine WE.then_normal ?_
              refine WC.cond_false rfl ?_
              refine WC.skip ?_
              refine WE.then_normal ?_
              refine WC.seq ?_
              refine WC.region ?_
              refine WL.move rfl rfl ?_
              refine WL.pick [6, 8, 0, 1, 2, 3, 4, 5, 7, 9, 10, 11, 12, 13, 14, 15] rfl rfl ?_
              refine WL.perm (fun _ hs => hs.join2) ?_
              refine WL.callS (dd := some 182) okF16_aa rfl rfl (boxes_spec (mvOf hb c.main (runM c kb (runM c ka (newM c input)))) bm _ hb.bh _ _ _ hrb rfl hwb.heap) (fun v11 I11 C11 _ hv => ?_)
              obtain ⟨hI11, A11, kx11, Cn11, rfl, hN11, rfl⟩ := hv
              have hI11 := hI11.symm
              subst hI11
              refine WL.perm (fun _ hs => hs.part3) ?_
              refine WL.freezeS hN11 (fun I11f hI11f hX11 => ?_)
              have hc := hc.mono hI11f
              have hsp := hsp.mono hI11f
              have hin := hin.mono hI11f
              obtain ⟨bx, rfl, hrx⟩ := counts_row hwb.heap hX11
              refine WL.assign rfl rfl ?_
              refine WL.nil ?_
              refine WE.then_normal ?_
              refine WC.seq ?_
              refine WC.seq ?_
              refine WC.region ?_
              refine WL.assign rfl rfl ?_
              refine WL.nil ?_
              refine WE.then_normal ?_
              refine WC.block ?_
              refine WC.loopV (X := Nat) [19, 201, 202, 203, 204, 205, 206] rfl (fun k => [(20, .int .i64 (k : Int))]) (fun k => k ≤ 5) (fun k => 5 - k) 0 (Nat.zero_le _) ⟨rfl, trivial⟩ (fun k hinv => ?_)
              refine WC.seq ?_
              refine WC.seq ?_
              refine WC.region ?_
              refine WL.move rfl rfl ?_
              refine WL.move rfl rfl ?_
              refine WL.len_slice rfl tE47_aa rfl ?_
              refine WL.arith rfl rfl rfl rfl ?_
              refine WL.nil ?_
              refine WE.then_normal ?_
              refine WC.condT rfl (fun h10 => ?_) (fun h10 => ?_)
              · try simp at h10
                try (exfalso; first | omega | (simp at *; done))
                all_goals (
                  refine WC.skip ?_
                  refine WE.then_normal ?_
                  refine WC.seq ?_
                  refine WC.block ?_
                  refine WC.seq ?_
                  refine WC.region ?_
                  obtain ⟨qv, hqv, hq0, hq12⟩ := counts_at hwb.heap (i := k) (by omega)
                  have hcx : _ = some (Value.int .i64 qv) := hrx k _ hqv
                  refine WL.move rfl rfl ?_
                  refine WL.move rfl rfl ?_
                  refine WL.indexAddr rfl rfl tE47_aa tS3_aa rfl (by first | omega) ?_
                  refine WL.load_imm rfl tA3_aa rfl (by first | exact (by simpa using hcx) | exact hcx) ?_
                  refine WL.arith (v := .bool false) rfl rfl (by simp only [Fw.arith]; exact congrArg some (congrArg Value.bool (by simp; omega))) rfl ?_
                  refine WL.move rfl rfl ?_
                  refine WL.guard_yes rfl rfl ?_
                  refine WL.move rfl rfl ?_
                  refine WL.guard_yes rfl rfl ?_
                  refine WL.move rfl rfl ?_
                  refine WL.guard_yes rfl rfl ?_
                  refine WL.indexAddr rfl rfl tE47_aa tS3_aa rfl (by first | omega) ?_
                  refine WL.guard_yes rfl rfl ?_
                  refine WL.load_imm rfl tA3_aa rfl (by first | exact (by simpa using hcx) | exact hcx) ?_
                  refine WL.guard_yes rfl rfl ?_
                  refine WL.arith (v := .bool false) rfl rfl (by simp only [Fw.arith]; exact congrArg some (congrArg Value.bool (by simp; omega))) rfl ?_
                  refine WL.pick_false rfl rfl rfl ?_
                  refine WL.nil ?_
                  refine WE.then_normal ?_
                  refine WC.cond_false rfl ?_
                  refine WC.skip ?_
                  refine WE.block_normal ?_
                  refine WE.then_normal ?_
                  refine WC.region ?_
                  refine WL.move rfl rfl ?_
                  first | refine WL.add rfl rfl (by omega) rfl ?_ | refine WL.arith rfl rfl rfl rfl ?_
                  refine WL.assign rfl rfl ?_
                  refine WL.nil ?_
                  refine WE.backV (k + 1) (by omega) (by omega) ⟨rfl, trivial⟩ (by repeat (first | exact trivial | refine ⟨rfl, ?_⟩))
                )
              · try simp at h10
                try (exfalso; first | omega | (simp at *; done))
                all_goals (
                  refine WC.exit ?_
                  refine WE.then_exit ?_
                  refine WE.then_exit ?_
                  refine WE.block_exit ?_
                  refine WE.then_normal ?_
                  refine WC.seq ?_
                  refine WC.region ?_
                  refine WL.move rfl rfl ?_
                  refine WL.len_slice rfl tE47_aa rfl ?_
                  refine WL.arith rfl rfl rfl rfl ?_
                  refine WL.move rfl rfl ?_
                  refine WL.guard_yes rfl rfl ?_
                  refine WL.callV okF5_aa rfl rfl (awake_spec _ hsp) ?_
                  refine WL.pick_true rfl rfl rfl ?_
                  refine WL.assign rfl rfl ?_
                  refine WL.nil ?_
                  refine WE.then_normal ?_
                  refine WC.ret ?_
                  refine WE.retV [8] rfl rfl rfl ?_
                  rfl
                )
          · refine WL.callV okF6_aa rfl rfl (doN_bad c I _ _ _ hc hsp input Ai ki hin hinN hirg hg ka (by omega)) ?_
            refine WL.move rfl rfl ?_
            refine WL.extract rfl rfl rfl ?_
            refine WL.extract rfl rfl rfl ?_
            refine WL.alloc tZ34_aa rfl rfl (fun b11 => ?_)
            refine WL.store 0 rfl rfl rfl rfl tS34_aa rfl rfl rfl rfl rfl ?_
            refine WL.assign rfl rfl ?_
            refine WL.nil ?_
            refine WE.then_normal ?_
            refine WC.seq ?_
            refine WC.seq ?_
            refine WC.region ?_
            refine WL.move rfl rfl ?_
            refine WL.arith rfl rfl rfl rfl ?_
            refine WL.nil ?_
            refine WE.then_normal ?_
            refine WC.cond_true rfl ?_
            refine WC.seq ?_
            refine WC.region ?_
            refine WL.callV okF5_aa rfl rfl (awake_spec _ hsp) ?_
            refine WL.assign rfl rfl ?_
            refine WL.nil ?_
            refine WE.then_normal ?_
            refine WC.ret ?_
            refine WE.then_ret ?_
            refine WE.retV [8] rfl rfl rfl ?_
            rfl
        )
    )
end Go.Proofs.YtddkkmdbolgnlaaDoor.Fw
