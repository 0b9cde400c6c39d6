/- A part of the proof: steps of the walk and laws that the claim's theorem rests on; each lemma states its own conditions. -/
import Derived.Test.YtddkkmdbolgnlaaDoorT12
import Derived.Test.YtddkkmdbolgnlaaDoorWalkE
import Derived.Test.YtddkkmdbolgnlaaDoorProg
set_option linter.unusedVariables false
set_option linter.unusedSimpArgs false
namespace Go.Proofs.YtddkkmdbolgnlaaDoor.Fw
open Go.Proofs
set_option maxRecDepth 100000
set_option linter.unusedVariables false
set_option linter.unusedSimpArgs false
theorem okF24_v : okFn Tryd.prog 24 Tryd.f24 := ⟨Tryd.func24, by kernel_rfl, rfl⟩
theorem tF69_2_v : offT Tryd.prog 69 2 = some 5 := by kernel_rfl
theorem tA27_v : aggT Tryd.prog 27 = some false := by kernel_rfl
theorem tE27_v : sliceT Tryd.prog 27 = some 2 := by kernel_rfl
theorem tS2_v : szT Tryd.prog 2 = some 1 := by kernel_rfl
theorem tNi9_v : notIface Tryd.prog 9 = true := by kernel_rfl
theorem okF79_v : okFn Tryd.prog 79 Tryd.f79 := ⟨Tryd.func79, by kernel_rfl, rfl⟩
theorem okF80_v : okFn Tryd.prog 80 Tryd.f80 := ⟨Tryd.func80, by kernel_rfl, rfl⟩
theorem tS27_v : szT Tryd.prog 27 = some 1 := by kernel_rfl
theorem tSt92_v : structT Tryd.prog 92 = some [(0, 1)] := by kernel_rfl
theorem tZ92_v : zeroT Tryd.prog 92 = some (.agg [(.int .u8 0)].toArray) := by kernel_rfl
theorem tNi92_v : notIface Tryd.prog 92 = true := by kernel_rfl
theorem tBo4_v : boolT Tryd.prog 4 = true := by kernel_rfl
theorem okF67_v : okFn Tryd.prog 67 Tryd.f67 := ⟨Tryd.func67, by kernel_rfl, rfl⟩
theorem tMixed_v : Tryd.prog.follows .mixedOrders = true := by kernel_rfl
theorem tI2_v : intT Tryd.prog 2 = some .i64 := by kernel_rfl
theorem tI125_v : intT Tryd.prog 125 = some .u64 := by kernel_rfl
theorem okF81_v : okFn Tryd.prog 81 Tryd.f81 := ⟨Tryd.func81, by kernel_rfl, rfl⟩
theorem okF82_v : okFn Tryd.prog 82 Tryd.f82 := ⟨Tryd.func82, by kernel_rfl, rfl⟩
theorem tA2_v : aggT Tryd.prog 2 = some false := by kernel_rfl
theorem tB2_v : bytesT Tryd.prog 2 = some 8 := by kernel_rfl
theorem tZ2_v : zeroT Tryd.prog 2 = some (.int .i64 0) := by kernel_rfl
theorem tI3_v : intT Tryd.prog 3 = some .i64 := by kernel_rfl
theorem memory_spec (I : Mem) : SpecV Tryd.prog 79 [] I (.int .i64 524661) := by
  refine SpecV.intro Tryd.func79 rfl rfl fun w0 => ?_
  show WC _ _ _ _ [] [] _ _ _
  refine WC.seq ?_
  refine WC.region ?_
  refine WL.assign rfl rfl ?_
  refine WL.nil ?_
  refine WE.then_normal ?_
  refine WC.seq ?_
  refine WC.region ?_
  refine WL.callV okF24_v rfl rfl (size_spec I) ?_
  first | refine WL.add rfl rfl (by omega) rfl ?_ | refine WL.arith rfl rfl rfl rfl ?_
  first | refine WL.add rfl rfl (by omega) rfl ?_ | refine WL.arith rfl rfl rfl rfl ?_
  refine WL.assign rfl rfl ?_
  refine WL.nil ?_
  refine WE.then_normal ?_
  refine WC.ret ?_
  refine WE.retV [0] rfl rfl rfl ?_
  rfl
theorem one_spec (b : Bool) (I : Mem) : SpecV Tryd.prog 63 [.bool b] I (.int .i64 (bI b)) := by
  refine SpecV.intro Tryd.func63 rfl rfl fun w0 => ?_
  show WC _ _ _ _ [] [(0, _)] _ _ _
  refine WC.seq ?_
  refine WC.region ?_
  refine WL.assign rfl rfl ?_
  refine WL.nil ?_
  refine WE.then_normal ?_
  refine WC.seq ?_
  refine WC.seq ?_
  refine WC.region ?_
  refine WL.move rfl rfl ?_
  refine WL.nil ?_
  refine WE.then_normal ?_
  refine WC.condT rfl (fun h1 => ?_) (fun h1 => ?_)
  · try simp at h1
    all_goals (
      refine WC.seq ?_
      refine WC.region ?_
      refine WL.assign rfl rfl ?_
      refine WL.nil ?_
      refine WE.then_normal ?_
      refine WC.ret ?_
      refine WE.then_ret ?_
      refine WE.retV [2] rfl rfl rfl ?_
      simp [tupleOf, bI, *]
    )
  · try simp at h1
    all_goals (
      refine WC.skip ?_
      refine WE.then_normal ?_
      refine WC.seq ?_
      refine WC.region ?_
      refine WL.assign rfl rfl ?_
      refine WL.nil ?_
      refine WE.then_normal ?_
      refine WC.ret ?_
      refine WE.retV [2] rfl rfl rfl ?_
      simp [tupleOf, bI, *]
    )
theorem word27_spec (x : MV) (ws : List Int) (A : Option Addr) (kw : Nat) (Cw : Chunk) (bm Em : Nat) (a : Int) (I : Mem) (hwv : x.wv = .slice A ws.length kw) (hS : SlO 1 (ints ws) A kw Cw) : Spec Tryd.prog 31 [.pointer (some ⟨bm, 0, none⟩), .int .i64 a] I (mcObj bm Em x ++ Cw) (fun v I' C' => v = .int .i64 (wordM ws a) ∧ I' = I ∧ C' = mcObj bm Em x ++ Cw) := by
  have hle := hS.len_le
  rw [ints_len, Nat.mul_one] at hle
  refine Spec.intro Tryd.func31 rfl rfl fun Γ => ?_
  show WC _ _ _ _ [] [(0, _), (1, _)] _ _ _
  refine WC.regroup [mcObj bm Em x, Cw] (by simp) ?_
  refine WC.seq ?_
  refine WC.region ?_
  refine WL.assign rfl rfl ?_
  refine WL.nil ?_
  refine WE.then_normal ?_
  refine WC.seq ?_
  refine WC.seq ?_
  refine WC.region ?_
  refine WL.move rfl rfl ?_
  refine WL.arith rfl rfl rfl rfl ?_
  refine WL.move rfl rfl ?_
  refine WL.split 7 rfl (fun h1 => ?_) (fun h1 => ?_)
  · try simp at h1
    all_goals (
      refine WL.guard_no rfl rfl rfl rfl ?_
      refine WL.guard_no rfl rfl rfl rfl ?_
      refine WL.guard_no rfl rfl rfl rfl ?_
      refine WL.guard_no rfl rfl rfl rfl ?_
      refine WL.guard_no rfl rfl rfl rfl ?_
      refine WL.guard_no rfl rfl rfl rfl ?_
      refine WL.guard_no rfl rfl rfl rfl ?_
      refine WL.pick_true rfl rfl rfl ?_
      refine WL.nil ?_
      refine WE.then_normal ?_
      refine WC.cond_true rfl ?_
      refine WC.seq ?_
      refine WC.region ?_
      refine WL.assign rfl rfl ?_
      refine WL.nil ?_
      refine WE.then_normal ?_
      refine WC.ret ?_
      refine WE.then_ret ?_
      refine WE.perm (fun w hs => hs.join) ?_
      refine WE.retCr rfl (.cons (.tmp rfl) .nil) rfl ?_
      refine ⟨?_, rfl, rfl⟩
      first | (rw [wordM, if_pos (by omega)]; rfl) | (rw [wordM, if_neg (by omega), List.getD_eq_getElem?_getD, hget]; rfl)
    )
  · try simp at h1
    all_goals (
      refine WL.guard_yes rfl rfl ?_
      refine WL.move rfl rfl ?_
      refine WL.guard_yes rfl rfl ?_
      refine WL.move rfl rfl ?_
      refine WL.guard_yes rfl rfl ?_
      refine WL.nilCheck rfl rfl ?_
      refine WL.guard_yes rfl rfl ?_
      refine WL.fieldAddr rfl tF69_2_v rfl ?_
      refine WL.guard_yes rfl rfl ?_
      refine WL.load_own 0 rfl rfl tA27_v mc5 rfl ?_
      refine WL.guard_yes rfl rfl ?_
      rw [hwv]
      refine WL.len_slice rfl tE27_v rfl ?_
      refine WL.guard_yes rfl rfl ?_
      refine WL.arith rfl rfl rfl rfl ?_
      refine WL.pick_false rfl rfl rfl ?_
      refine WL.nil ?_
      refine WE.then_normal ?_
      refine WC.condT rfl (fun h2 => ?_) (fun h2 => ?_)
      · try simp at h2
        all_goals (
          refine WC.seq ?_
          refine WC.region ?_
          refine WL.assign rfl rfl ?_
          refine WL.nil ?_
          refine WE.then_normal ?_
          refine WC.ret ?_
          refine WE.then_ret ?_
          refine WE.perm (fun w hs => hs.join) ?_
          refine WE.retCr rfl (.cons (.tmp rfl) .nil) rfl ?_
          refine ⟨?_, rfl, rfl⟩
          first | (rw [wordM, if_pos (by omega)]; rfl) | (rw [wordM, if_neg (by omega), List.getD_eq_getElem?_getD, hget]; rfl)
        )
      · try simp at h2
        all_goals (
          refine WC.skip ?_
          refine WE.then_normal ?_
          refine WC.seq ?_
          refine WC.region ?_
          refine WL.move rfl rfl ?_
          refine WL.nilCheck rfl rfl ?_
          refine WL.fieldAddr rfl tF69_2_v rfl ?_
          refine WL.load_own 0 rfl rfl tA27_v mc5 rfl ?_
          rw [hwv]
          obtain ⟨b, pad, E, rfl, rfl, hpad⟩ := hS.ne (by omega)
          obtain ⟨r, hget⟩ : ∃ r, ws[a.toNat]? = some r := ⟨_, List.getElem?_eq_getElem (by omega)⟩
          refine WL.move rfl rfl ?_
          refine WL.indexAddr rfl rfl tE27_v tS2_v rfl (by first | omega) ?_
          refine WL.load_own 1 rfl rfl tA2_v (by simpa using ints_get hget pad) rfl ?_
          refine WL.assign rfl rfl ?_
          refine WL.nil ?_
          refine WE.then_normal ?_
          refine WC.ret ?_
          refine WE.perm (fun w hs => hs.join) ?_
          refine WE.retCr rfl (.cons (.tmp rfl) .nil) rfl ?_
          refine ⟨?_, rfl, rfl⟩
          first | (rw [wordM, if_pos (by omega)]; rfl) | (rw [wordM, if_neg (by omega), List.getD_eq_getElem?_getD, hget]; rfl)
        )
    )
theorem grow_spec (ws : List Int) (A : Option Addr) (cap n : Nat) (C : Chunk) (I : Mem) (hS : SlO 1 (ints ws) A cap C) (hn : ws.length + n ≤ 1048576) : Spec Tryd.prog 80 [.slice A ws.length cap, .int .i64 (n : Int)] I C (fun v I' C' => I' = I ∧ ∃ A' k', v = .slice A' ws.length k' ∧ SlO 1 (ints ws) A' k' C' ∧ ws.length + n ≤ k') := by
  have hle := hS.len_le
  rw [ints_len, Nat.mul_one] at hle
  have hcm := hS.cap_le
  refine Spec.intro Tryd.func80 rfl rfl fun Γ => ?_
  show WC _ _ _ _ [] [(0, _), (1, _)] _ _ _
  refine WC.seq ?_
  refine WC.region ?_
  refine WL.assign rfl rfl ?_
  refine WL.nil ?_
  refine WE.then_normal ?_
  refine WC.seq ?_
  refine WC.seq ?_
  refine WC.region ?_
  refine WL.move rfl rfl ?_
  refine WL.arith rfl rfl rfl rfl ?_
  refine WL.nil ?_
  refine WE.then_normal ?_
  refine WC.condT rfl (fun h1 => ?_) (fun h1 => ?_)
  · try simp at h1
    try (exfalso; omega)
    all_goals (
      refine WC.region ?_
      refine WL.iface rfl tNi9_v rfl ?_
      refine WL.panic rfl ?_
      refine WE.then_panic ?_
      exfalso; omega
    )
  · try simp at h1
    try (exfalso; omega)
    all_goals (
      refine WC.skip ?_
      refine WE.then_normal ?_
      refine WC.seq ?_
      refine WC.seq ?_
      refine WC.region ?_
      refine WL.move rfl rfl ?_
      refine WL.move rfl rfl ?_
      refine WL.cap_slice rfl tE27_v rfl ?_
      refine WL.move rfl rfl ?_
      refine WL.len_slice rfl tE27_v rfl ?_
      first | refine WL.sub rfl rfl (by omega) rfl ?_ | refine WL.arith rfl rfl rfl rfl ?_
      first | refine WL.sub rfl rfl (by omega) rfl ?_ | refine WL.arith rfl rfl rfl rfl ?_
      refine WL.assign rfl rfl ?_
      refine WL.nil ?_
      refine WE.then_normal ?_
      refine WC.seq ?_
      refine WC.region ?_
      refine WL.move rfl rfl ?_
      refine WL.arith rfl rfl rfl rfl ?_
      refine WL.nil ?_
      refine WE.then_normal ?_
      refine WC.condT rfl (fun h2 => ?_) (fun h2 => ?_)
      · try simp at h2
        try (exfalso; omega)
        all_goals (
          refine WC.region ?_
          refine WL.move rfl rfl ?_
          refine WL.move rfl rfl ?_
          refine WL.cap_slice rfl tE27_v rfl ?_
          refine WL.slice_to rfl rfl tE27_v tS2_v rfl (by first | omega) ?_
          rw [hS.cut0]
          obtain ⟨cs2, hS2, hl2⟩ := hS.recut
          rw [ints_len, Nat.mul_one] at hl2
          obtain ⟨m, hm⟩ : ∃ m : Nat, (n : Int) - ((cap : Int) - (ws.length : Int)) = m := ⟨(n + ws.length) - cap, by omega⟩
          rw [hm]
          simp only [Int.toNat_natCast]
          refine WL.move rfl rfl ?_
          refine WL.append_zeros 0 rfl rfl tE27_v tI3_v tS2_v tB2_v tZ2_v rfl rfl rfl rfl (fun C' => rfl) hS2 (by rw [List.length_append, ints_len]; omega) (by omega) (by omega) (by omega) (by omega) rfl (fun A' k' C' hS3 => ?_)
          have hle3 := hS3.len_le
          rw [List.length_append, List.length_append, ints_len, zerosL_int, ints_len, List.length_replicate] at hle3
          have hcm3 := hS3.cap_le
          refine WL.move rfl rfl ?_
          refine WL.len_slice rfl tE27_v rfl ?_
          refine WL.slice_to rfl rfl tE27_v tS2_v rfl (by first | omega) ?_
          rw [hS3.cut0]
          refine WL.assign rfl rfl ?_
          refine WL.nil ?_
          refine WE.then_normal ?_
          refine WC.seq ?_
          refine WC.region ?_
          refine WL.move rfl rfl ?_
          refine WL.assign rfl rfl ?_
          refine WL.nil ?_
          refine WE.then_normal ?_
          refine WC.ret ?_
          refine WE.retCr rfl (.cons (.tmp rfl) .nil) rfl ?_
          first | exact ⟨rfl, _, _, rfl, hS3.less.less, by omega⟩ | exact ⟨rfl, _, _, rfl, hS, by omega⟩
        )
      · try simp at h2
        try (exfalso; omega)
        all_goals (
          refine WC.skip ?_
          refine WE.then_normal ?_
          refine WC.seq ?_
          refine WC.region ?_
          refine WL.move rfl rfl ?_
          refine WL.assign rfl rfl ?_
          refine WL.nil ?_
          refine WE.then_normal ?_
          refine WC.ret ?_
          refine WE.retCr rfl (.cons (.tmp rfl) .nil) rfl ?_
          first | exact ⟨rfl, _, _, rfl, hS3.less.less, by omega⟩ | exact ⟨rfl, _, _, rfl, hS, by omega⟩
        )
    )
theorem set27_spec (x : MV) (ws : List Int) (A : Option Addr) (kw : Nat) (Cw : Chunk) (bm Em : Nat) (a v : Int) (I : Mem) (hr : x.regs.length = 16) (hwv : x.wv = .slice A ws.length kw) (hS : SlO 1 (ints ws) A kw Cw) (hwl : ws.length ≤ 524661) : Spec Tryd.prog 59 [.pointer (some ⟨bm, 0, none⟩), .int .i64 a, .int .i64 v] I (mcObj bm Em x ++ Cw) (fun _ I' C' => I' = I ∧ ∃ A' k' Cw', C' = mcObj bm Em { x with wv := .slice A' (setM ws a v).length k' } ++ Cw' ∧ SlO 1 (ints (setM ws a v)) A' k' Cw') := by
  have hle := hS.len_le
  rw [ints_len, Nat.mul_one] at hle
  refine Spec.intro Tryd.func59 rfl rfl fun Γ => ?_
  show WC _ _ _ _ [] [(0, _), (1, _), (2, _)] _ _ _
  refine WC.regroup [mcObj bm Em x, Cw] (by simp) ?_
  refine WC.seq ?_
  refine WC.seq ?_
  refine WC.region ?_
  refine WL.move rfl rfl ?_
  refine WL.arith rfl rfl rfl rfl ?_
  refine WL.move rfl rfl ?_
  refine WL.split 10 rfl (fun h1 => ?_) (fun h1 => ?_)
  · try simp at h1
    try (exfalso; omega)
    all_goals (
      refine WL.guard_no rfl rfl rfl rfl ?_
      refine WL.guard_no rfl rfl rfl rfl ?_
      refine WL.guard_no rfl rfl rfl rfl ?_
      refine WL.pick_true rfl rfl rfl ?_
      refine WL.move rfl rfl ?_
      refine WL.guard_no rfl rfl rfl rfl ?_
      refine WL.guard_no rfl rfl rfl rfl ?_
      refine WL.guard_no rfl rfl rfl rfl ?_
      refine WL.guard_undef rfl rfl rfl ?_
      refine WL.guard_undef rfl rfl rfl ?_
      refine WL.guard_undef rfl rfl rfl ?_
      refine WL.guard_undef rfl rfl rfl ?_
      refine WL.guard_undef rfl rfl rfl ?_
      refine WL.guard_undef rfl rfl rfl ?_
      refine WL.guard_undef rfl rfl rfl ?_
      refine WL.guard_no rfl rfl rfl rfl ?_
      refine WL.pick_true rfl rfl rfl ?_
      refine WL.nil ?_
      refine WE.then_normal ?_
      refine WC.cond_true rfl ?_
      refine WC.ret ?_
      refine WE.then_ret ?_
      refine WE.perm (fun w hs => hs.join) ?_
      refine WE.retCr rfl .nil rfl ?_
      rw [setM_no (by first | omega | (right; right; exact ⟨by assumption, by assumption⟩))]
      exact ⟨rfl, A, kw, Cw, by rw [← hwv], hS⟩
    )
  · try simp at h1
    try (exfalso; omega)
    all_goals (
      refine WL.guard_yes rfl rfl ?_
      refine WL.move rfl rfl ?_
      refine WL.guard_yes rfl rfl ?_
      refine WL.callV okF79_v rfl rfl (memory_spec I) ?_
      refine WL.guard_yes rfl rfl ?_
      refine WL.arith rfl rfl rfl rfl ?_
      refine WL.pick_false rfl rfl rfl ?_
      refine WL.move rfl rfl ?_
      refine WL.split 15 rfl (fun h2 => ?_) (fun h2 => ?_)
      · try simp at h2
        try (exfalso; omega)
        all_goals (
          refine WL.guard_no rfl rfl rfl rfl ?_
          refine WL.guard_no rfl rfl rfl rfl ?_
          refine WL.guard_no rfl rfl rfl rfl ?_
          refine WL.guard_undef rfl rfl rfl ?_
          refine WL.guard_undef rfl rfl rfl ?_
          refine WL.guard_undef rfl rfl rfl ?_
          refine WL.guard_undef rfl rfl rfl ?_
          refine WL.guard_undef rfl rfl rfl ?_
          refine WL.guard_undef rfl rfl rfl ?_
          refine WL.guard_undef rfl rfl rfl ?_
          refine WL.guard_no rfl rfl rfl rfl ?_
          refine WL.pick_true rfl rfl rfl ?_
          refine WL.nil ?_
          refine WE.then_normal ?_
          refine WC.cond_true rfl ?_
          refine WC.ret ?_
          refine WE.then_ret ?_
          refine WE.perm (fun w hs => hs.join) ?_
          refine WE.retCr rfl .nil rfl ?_
          rw [setM_no (by first | omega | (right; right; exact ⟨by assumption, by assumption⟩))]
          exact ⟨rfl, A, kw, Cw, by rw [← hwv], hS⟩
        )
      · try simp at h2
        try (exfalso; omega)
        all_goals (
          refine WL.guard_yes rfl rfl ?_
          refine WL.move rfl rfl ?_
          refine WL.guard_yes rfl rfl ?_
          refine WL.arith rfl rfl rfl rfl ?_
          refine WL.guard_yes rfl rfl ?_
          refine WL.move rfl rfl ?_
          refine WL.split 18 rfl (fun h3 => ?_) (fun h3 => ?_)
          · try simp at h3
            try (exfalso; omega)
            all_goals (
              refine WL.guard_yes rfl rfl ?_
              refine WL.move rfl rfl ?_
              refine WL.guard_yes rfl rfl ?_
              refine WL.move rfl rfl ?_
              refine WL.guard_yes rfl rfl ?_
              refine WL.nilCheck rfl rfl ?_
              refine WL.guard_yes rfl rfl ?_
              refine WL.fieldAddr rfl tF69_2_v rfl ?_
              refine WL.guard_yes rfl rfl ?_
              refine WL.load_own 0 rfl rfl tA27_v mc5 rfl ?_
              refine WL.guard_yes rfl rfl ?_
              rw [hwv]
              refine WL.len_slice rfl tE27_v rfl ?_
              refine WL.guard_yes rfl rfl ?_
              refine WL.arith rfl rfl rfl rfl ?_
              refine WL.guard_yes rfl rfl ?_
              refine WL.pick_true rfl rfl rfl ?_
              refine WL.pick_false rfl rfl rfl ?_
              refine WL.nil ?_
              refine WE.then_normal ?_
              refine WC.condT rfl (fun h4 => ?_) (fun h4 => ?_)
              · try simp at h4
                try (exfalso; omega)
                all_goals (
                  refine WC.ret ?_
                  refine WE.then_ret ?_
                  refine WE.perm (fun w hs => hs.join) ?_
                  refine WE.retCr rfl .nil rfl ?_
                  rw [setM_no (by first | omega | (right; right; exact ⟨by assumption, by assumption⟩))]
                  exact ⟨rfl, A, kw, Cw, by rw [← hwv], hS⟩
                )
              · try simp at h4
                try (exfalso; omega)
                all_goals (
                  refine WC.skip ?_
                  refine WE.then_normal ?_
                  refine WC.seq ?_
                  refine WC.seq ?_
                  refine WC.region ?_
                  refine WL.move rfl rfl ?_
                  first | refine WL.add rfl rfl (by omega) rfl ?_ | refine WL.arith rfl rfl rfl rfl ?_
                  refine WL.assign rfl rfl ?_
                  refine WL.nil ?_
                  refine WE.then_normal ?_
                  refine WC.seq ?_
                  refine WC.region ?_
                  refine WL.move rfl rfl ?_
                  refine WL.move rfl rfl ?_
                  refine WL.nilCheck rfl rfl ?_
                  refine WL.fieldAddr rfl tF69_2_v rfl ?_
                  refine WL.load_own 0 rfl rfl tA27_v mc5 rfl ?_
                  rw [hwv]
                  refine WL.len_slice rfl tE27_v rfl ?_
                  refine WL.arith rfl rfl rfl rfl ?_
                  refine WL.nil ?_
                  refine WE.then_normal ?_
                  refine WC.condT rfl (fun h5 => ?_) (fun h5 => ?_)
                  · try simp at h5
                    try (exfalso; omega)
                    all_goals (
                      refine WC.seq ?_
                      refine WC.region ?_
                      refine WL.move rfl rfl ?_
                      refine WL.nilCheck rfl rfl ?_
                      refine WL.fieldAddr rfl tF69_2_v rfl ?_
                      refine WL.load_own 0 rfl rfl tA27_v mc5 rfl ?_
                      rw [hwv]
                      refine WL.len_slice rfl tE27_v rfl ?_
                      refine WL.assign rfl rfl ?_
                      refine WL.nil ?_
                      refine WE.then_normal ?_
                      refine WC.seq ?_
                      refine WC.region ?_
                      refine WL.move rfl rfl ?_
                      refine WL.move rfl rfl ?_
                      refine WL.nilCheck rfl rfl ?_
                      refine WL.fieldAddr rfl tF69_2_v rfl ?_
                      refine WL.load_own 0 rfl rfl tA27_v mc5 rfl ?_
                      rw [hwv]
                      refine WL.move rfl rfl ?_
                      refine WL.move rfl rfl ?_
                      first | refine WL.sub rfl rfl (by omega) rfl ?_ | refine WL.arith rfl rfl rfl rfl ?_
                      obtain ⟨q, hq⟩ : ∃ q : Nat, a + 1 - (ws.length : Int) = q := ⟨(a + 1 - ws.length).toNat, by omega⟩
                      rw [hq]
                      refine WL.pick [1, 0] rfl rfl ?_
                      refine WL.call1 okF80_v rfl rfl (grow_spec ws A kw q Cw I hS (by omega)) (fun v1 I1 C1 _ hv => ?_)
                      obtain ⟨hI, A1, k1, rfl, hS1, hk1⟩ := hv
                      have hI := hI.symm
                      subst hI
                      refine WL.move rfl rfl ?_
                      refine WL.slice_to rfl rfl tE27_v tS2_v rfl (by first | omega) ?_
                      rw [hS1.cut0]
                      refine WL.nilCheck rfl rfl ?_
                      refine WL.fieldAddr rfl tF69_2_v rfl ?_
                      refine WL.store_mc 1 rfl rfl rfl rfl tS27_v rfl hr rfl (mcs5 hr) rfl ?_
                      refine WL.nil ?_
                      refine WE.then_normal ?_
                      refine WC.region ?_
                      refine WL.move rfl rfl ?_
                      refine WL.nilCheck rfl rfl ?_
                      refine WL.fieldAddr rfl tF69_2_v rfl ?_
                      refine WL.load_own 1 rfl rfl tA27_v mc5 rfl ?_
                      dsimp only
                      refine WL.move rfl rfl ?_
                      refine WL.slice_lo rfl rfl tE27_v tS2_v rfl (by first | omega) ?_
                      have hcm := hS1.cap_le
                      obtain ⟨b, pad, E, rfl, rfl, hpad⟩ := hS1.ne (by omega)
                      rw [ints_len, Nat.mul_one] at hpad
                      rw [Int.toNat_natCast, sliceV_at (by omega)]
                      refine WL.clear_own 0 rfl tE27_v tZ2_v rfl rfl rfl rfl (by rw [List.length_append, ints_len]; first | (simp; done) | (simp; omega) | omega) rfl ?_
                      rw [clear_eq (by omega)]
                      refine WL.nil ?_
                      refine WE.then_normal ?_
                      refine WC.region ?_
                      refine WL.move rfl rfl ?_
                      refine WL.nilCheck rfl rfl ?_
                      refine WL.fieldAddr rfl tF69_2_v rfl ?_
                      refine WL.load_own 1 rfl rfl tA27_v mc5 rfl ?_
                      refine WL.move rfl rfl ?_
                      refine WL.move rfl rfl ?_
                      refine WL.indexAddr rfl rfl tE27_v tS2_v rfl (by first | omega) ?_
                      refine WL.store_at 0 rfl rfl rfl rfl tS2_v rfl rfl (by rw [List.length_append, ints_len]; first | (simp; done) | (simp; omega) | omega) rfl ?_
                      rw [show 0 + a.toNat * 1 = a.toNat by omega, set_ints (by first | omega | (simp; done) | (simp; omega))]
                      refine WL.nil ?_
                      refine WE.pick [1, 0] rfl rfl ?_
                      refine WE.perm (fun w hs => hs.join) ?_
                      refine WE.endCr rfl .nil rfl ?_
                      have e1 : (a + 1).toNat = a.toNat + 1 := by omega
                      have hlen := setM_len_grow (ws := ws) (a := a) (v := v) (by omega) (by omega) (by omega) (by omega)
                      rw [e1, setM_grow (by omega) (by omega) (by omega) (by omega)]
                      exact ⟨rfl, some ⟨b, 0, none⟩, k1, _, by rw [hlen]; rfl, SlO.mk_ints (pad := pad.drop (a.toNat + 1 - ws.length)) (E := E) (by rw [hlen, List.length_drop]; omega) hcm⟩
                    )
                  · try simp at h5
                    try (exfalso; omega)
                    all_goals (
                      refine WC.skip ?_
                      refine WE.then_normal ?_
                      refine WC.region ?_
                      have hcm := hS.cap_le
                      obtain ⟨b, pad, E, rfl, rfl, hpad⟩ := hS.ne (by omega)
                      rw [ints_len, Nat.mul_one] at hpad
                      refine WL.move rfl rfl ?_
                      refine WL.nilCheck rfl rfl ?_
                      refine WL.fieldAddr rfl tF69_2_v rfl ?_
                      refine WL.load_own 0 rfl rfl tA27_v mc5 rfl ?_
                      rw [hwv]
                      refine WL.move rfl rfl ?_
                      refine WL.move rfl rfl ?_
                      refine WL.indexAddr rfl rfl tE27_v tS2_v rfl (by first | omega) ?_
                      refine WL.store_at 1 rfl rfl rfl rfl tS2_v rfl rfl (by rw [List.length_append, ints_len]; first | (simp; done) | (simp; omega) | omega) rfl ?_
                      rw [show 0 + a.toNat * 1 = a.toNat by omega, set_ints (by first | omega | (simp; done) | (simp; omega))]
                      refine WL.nil ?_
                      refine WE.pick [0, 1] rfl rfl ?_
                      refine WE.perm (fun w hs => hs.join) ?_
                      refine WE.endCr rfl .nil rfl ?_
                      have hlen := setM_len_in (ws := ws) (a := a) (v := v) (by omega) (by omega) (by omega)
                      rw [setM_in (by omega) (by omega) (by omega)]
                      exact ⟨rfl, some ⟨b, 0, none⟩, kw, _, by rw [hlen, ← hwv], SlO.mk_ints (pad := pad) (E := E) (by rw [hlen]; exact hpad) hcm⟩
                    )
                )
            )
          · try simp at h3
            try (exfalso; omega)
            all_goals (
              refine WL.guard_no rfl rfl rfl rfl ?_
              refine WL.guard_no rfl rfl rfl rfl ?_
              refine WL.guard_no rfl rfl rfl rfl ?_
              refine WL.guard_no rfl rfl rfl rfl ?_
              refine WL.guard_no rfl rfl rfl rfl ?_
              refine WL.guard_no rfl rfl rfl rfl ?_
              refine WL.guard_no rfl rfl rfl rfl ?_
              refine WL.guard_yes rfl rfl ?_
              refine WL.pick_false rfl rfl rfl ?_
              refine WL.pick_false rfl rfl rfl ?_
              refine WL.nil ?_
              refine WE.then_normal ?_
              refine WC.cond_false rfl ?_
              refine WC.skip ?_
              refine WE.then_normal ?_
              refine WC.seq ?_
              refine WC.seq ?_
              refine WC.region ?_
              refine WL.move rfl rfl ?_
              first | refine WL.add rfl rfl (by omega) rfl ?_ | refine WL.arith rfl rfl rfl rfl ?_
              refine WL.assign rfl rfl ?_
              refine WL.nil ?_
              refine WE.then_normal ?_
              refine WC.seq ?_
              refine WC.region ?_
              refine WL.move rfl rfl ?_
              refine WL.move rfl rfl ?_
              refine WL.nilCheck rfl rfl ?_
              refine WL.fieldAddr rfl tF69_2_v rfl ?_
              refine WL.load_own 0 rfl rfl tA27_v mc5 rfl ?_
              rw [hwv]
              refine WL.len_slice rfl tE27_v rfl ?_
              refine WL.arith rfl rfl rfl rfl ?_
              refine WL.nil ?_
              refine WE.then_normal ?_
              refine WC.condT rfl (fun h6 => ?_) (fun h6 => ?_)
              · try simp at h6
                try (exfalso; omega)
                all_goals (
                  refine WC.seq ?_
                  refine WC.region ?_
                  refine WL.move rfl rfl ?_
                  refine WL.nilCheck rfl rfl ?_
                  refine WL.fieldAddr rfl tF69_2_v rfl ?_
                  refine WL.load_own 0 rfl rfl tA27_v mc5 rfl ?_
                  rw [hwv]
                  refine WL.len_slice rfl tE27_v rfl ?_
                  refine WL.assign rfl rfl ?_
                  refine WL.nil ?_
                  refine WE.then_normal ?_
                  refine WC.seq ?_
                  refine WC.region ?_
                  refine WL.move rfl rfl ?_
                  refine WL.move rfl rfl ?_
                  refine WL.nilCheck rfl rfl ?_
                  refine WL.fieldAddr rfl tF69_2_v rfl ?_
                  refine WL.load_own 0 rfl rfl tA27_v mc5 rfl ?_
                  rw [hwv]
                  refine WL.move rfl rfl ?_
                  refine WL.move rfl rfl ?_
                  first | refine WL.sub rfl rfl (by omega) rfl ?_ | refine WL.arith rfl rfl rfl rfl ?_
                  obtain ⟨q, hq⟩ : ∃ q : Nat, a + 1 - (ws.length : Int) = q := ⟨(a + 1 - ws.length).toNat, by omega⟩
                  rw [hq]
                  refine WL.pick [1, 0] rfl rfl ?_
                  refine WL.call1 okF80_v rfl rfl (grow_spec ws A kw q Cw I hS (by omega)) (fun v1 I1 C1 _ hv => ?_)
                  obtain ⟨hI, A1, k1, rfl, hS1, hk1⟩ := hv
                  have hI := hI.symm
                  subst hI
                  refine WL.move rfl rfl ?_
                  refine WL.slice_to rfl rfl tE27_v tS2_v rfl (by first | omega) ?_
                  rw [hS1.cut0]
                  refine WL.nilCheck rfl rfl ?_
                  refine WL.fieldAddr rfl tF69_2_v rfl ?_
                  refine WL.store_mc 1 rfl rfl rfl rfl tS27_v rfl hr rfl (mcs5 hr) rfl ?_
                  refine WL.nil ?_
                  refine WE.then_normal ?_
                  refine WC.region ?_
                  refine WL.move rfl rfl ?_
                  refine WL.nilCheck rfl rfl ?_
                  refine WL.fieldAddr rfl tF69_2_v rfl ?_
                  refine WL.load_own 1 rfl rfl tA27_v mc5 rfl ?_
                  dsimp only
                  refine WL.move rfl rfl ?_
                  refine WL.slice_lo rfl rfl tE27_v tS2_v rfl (by first | omega) ?_
                  have hcm := hS1.cap_le
                  obtain ⟨b, pad, E, rfl, rfl, hpad⟩ := hS1.ne (by omega)
                  rw [ints_len, Nat.mul_one] at hpad
                  rw [Int.toNat_natCast, sliceV_at (by omega)]
                  refine WL.clear_own 0 rfl tE27_v tZ2_v rfl rfl rfl rfl (by rw [List.length_append, ints_len]; first | (simp; done) | (simp; omega) | omega) rfl ?_
                  rw [clear_eq (by omega)]
                  refine WL.nil ?_
                  refine WE.then_normal ?_
                  refine WC.region ?_
                  refine WL.move rfl rfl ?_
                  refine WL.nilCheck rfl rfl ?_
                  refine WL.fieldAddr rfl tF69_2_v rfl ?_
                  refine WL.load_own 1 rfl rfl tA27_v mc5 rfl ?_
                  refine WL.move rfl rfl ?_
                  refine WL.move rfl rfl ?_
                  refine WL.indexAddr rfl rfl tE27_v tS2_v rfl (by first | omega) ?_
                  refine WL.store_at 0 rfl rfl rfl rfl tS2_v rfl rfl (by rw [List.length_append, ints_len]; first | (simp; done) | (simp; omega) | omega) rfl ?_
                  rw [show 0 + a.toNat * 1 = a.toNat by omega, set_ints (by first | omega | (simp; done) | (simp; omega))]
                  refine WL.nil ?_
                  refine WE.pick [1, 0] rfl rfl ?_
                  refine WE.perm (fun w hs => hs.join) ?_
                  refine WE.endCr rfl .nil rfl ?_
                  have e1 : (a + 1).toNat = a.toNat + 1 := by omega
                  have hlen := setM_len_grow (ws := ws) (a := a) (v := v) (by omega) (by omega) (by omega) (by omega)
                  rw [e1, setM_grow (by omega) (by omega) (by omega) (by omega)]
                  exact ⟨rfl, some ⟨b, 0, none⟩, k1, _, by rw [hlen]; rfl, SlO.mk_ints (pad := pad.drop (a.toNat + 1 - ws.length)) (E := E) (by rw [hlen, List.length_drop]; omega) hcm⟩
                )
              · try simp at h6
                try (exfalso; omega)
                all_goals (
                  refine WC.skip ?_
                  refine WE.then_normal ?_
                  refine WC.region ?_
                  have hcm := hS.cap_le
                  obtain ⟨b, pad, E, rfl, rfl, hpad⟩ := hS.ne (by omega)
                  rw [ints_len, Nat.mul_one] at hpad
                  refine WL.move rfl rfl ?_
                  refine WL.nilCheck rfl rfl ?_
                  refine WL.fieldAddr rfl tF69_2_v rfl ?_
                  refine WL.load_own 0 rfl rfl tA27_v mc5 rfl ?_
                  rw [hwv]
                  refine WL.move rfl rfl ?_
                  refine WL.move rfl rfl ?_
                  refine WL.indexAddr rfl rfl tE27_v tS2_v rfl (by first | omega) ?_
                  refine WL.store_at 1 rfl rfl rfl rfl tS2_v rfl rfl (by rw [List.length_append, ints_len]; first | (simp; done) | (simp; omega) | omega) rfl ?_
                  rw [show 0 + a.toNat * 1 = a.toNat by omega, set_ints (by first | omega | (simp; done) | (simp; omega))]
                  refine WL.nil ?_
                  refine WE.pick [0, 1] rfl rfl ?_
                  refine WE.perm (fun w hs => hs.join) ?_
                  refine WE.endCr rfl .nil rfl ?_
                  have hlen := setM_len_in (ws := ws) (a := a) (v := v) (by omega) (by omega) (by omega)
                  rw [setM_in (by omega) (by omega) (by omega)]
                  exact ⟨rfl, some ⟨b, 0, none⟩, kw, _, by rw [hlen, ← hwv], SlO.mk_ints (pad := pad) (E := E) (by rw [hlen]; exact hpad) hcm⟩
                )
            )
        )
    )
theorem trap_spec (t : Int) (I : Mem) : SpecE Tryd.prog 67 [.int .u8 t] I [] (fun _ _ _ => False) (fun v I' C' => v = stopV 92 t ∧ I' = I ∧ C' = []) := by
  refine SpecE.intro Tryd.func67 rfl rfl fun Γ => ?_
  show WC _ _ _ _ [] [(0, _)] _ _ _
  refine WC.region ?_
  refine WL.move rfl rfl ?_
  refine WL.build_struct rfl tZ92_v tSt92_v rfl rfl rfl ?_
  refine WL.iface rfl tNi92_v rfl ?_
  refine WL.panic rfl ?_
  refine WE.panicE ?_
  exact ⟨rfl, rfl, rfl⟩
theorem sum_spec (a b : Int) (mi : Bool) (I : Mem) (ha : Rg a) (hb : Rg b) : SpecE Tryd.prog 60 [.int .i64 a, .int .i64 b, .bool mi] I [] (fun v I' C' => (v = .int .i64 (if mi then a - b else a + b) ∧ I' = I ∧ C' = []) ∧ Rg (if mi then a - b else a + b)) (fun v I' C' => (v = stopV 92 1 ∧ I' = I ∧ C' = []) ∧ ¬ Rg (if mi then a - b else a + b)) := by
  unfold Rg at *
  obtain ⟨c1, hc1, hr1, hx1⟩ := wrap64 (x := a + b) (by omega)
  obtain ⟨c2, hc2, hr2, hx2⟩ := wrap64 (x := a - b) (by omega)
  refine SpecE.intro Tryd.func60 rfl rfl fun Γ => ?_
  show WC _ _ _ _ [] [(0, _), (1, _), (2, _)] _ _ _
  refine WC.seq ?_
  refine WC.region ?_
  refine WL.assign rfl rfl ?_
  refine WL.nil ?_
  refine WE.then_normal ?_
  refine WC.seq ?_
  refine WC.region ?_
  refine WL.move rfl rfl ?_
  refine WL.move rfl rfl ?_
  refine WL.arith rfl rfl rfl rfl ?_
  rw [hc1]
  refine WL.assign rfl rfl ?_
  refine WL.nil ?_
  refine WE.then_normal ?_
  refine WC.seq ?_
  refine WC.region ?_
  refine WL.move rfl rfl ?_
  refine WL.arith rfl rfl rfl rfl ?_
  refine WL.move rfl rfl ?_
  refine WL.arith rfl rfl rfl rfl ?_
  refine WL.bool_eql rfl rfl tBo4_v rfl ?_
  refine WL.move rfl rfl ?_
  refine WL.split 17 rfl (fun h1 => ?_) (fun h1 => ?_)
  · try simp at h1
    try (exfalso; omega)
    all_goals (
      refine WL.guard_yes rfl rfl ?_
      refine WL.move rfl rfl ?_
      refine WL.guard_yes rfl rfl ?_
      refine WL.arith rfl rfl rfl rfl ?_
      refine WL.guard_yes rfl rfl ?_
      refine WL.move rfl rfl ?_
      refine WL.guard_yes rfl rfl ?_
      refine WL.arith rfl rfl rfl rfl ?_
      refine WL.guard_yes rfl rfl ?_
      refine WL.bool_neq rfl rfl tBo4_v rfl ?_
      refine WL.pick_true rfl rfl rfl ?_
      refine WL.assign rfl rfl ?_
      refine WL.nil ?_
      refine WE.then_normal ?_
      refine WC.seq ?_
      refine WC.seq ?_
      refine WC.region ?_
      refine WL.move rfl rfl ?_
      refine WL.nil ?_
      refine WE.then_normal ?_
      refine WC.condT rfl (fun h2 => ?_) (fun h2 => ?_)
      · try simp at h2
        try (exfalso; omega)
        all_goals (
          refine WC.seq ?_
          refine WC.region ?_
          refine WL.move rfl rfl ?_
          refine WL.move rfl rfl ?_
          refine WL.arith rfl rfl rfl rfl ?_
          rw [hc2]
          refine WL.assign rfl rfl ?_
          refine WL.nil ?_
          refine WE.then_normal ?_
          refine WC.region ?_
          refine WL.move rfl rfl ?_
          refine WL.arith rfl rfl rfl rfl ?_
          refine WL.move rfl rfl ?_
          refine WL.arith rfl rfl rfl rfl ?_
          refine WL.bool_neq rfl rfl tBo4_v rfl ?_
          refine WL.move rfl rfl ?_
          refine WL.split 33 rfl (fun h3 => ?_) (fun h3 => ?_)
          · try simp at h3
            try (exfalso; omega)
            all_goals (
              refine WL.guard_yes rfl rfl ?_
              refine WL.move rfl rfl ?_
              refine WL.guard_yes rfl rfl ?_
              refine WL.arith rfl rfl rfl rfl ?_
              refine WL.guard_yes rfl rfl ?_
              refine WL.move rfl rfl ?_
              refine WL.guard_yes rfl rfl ?_
              refine WL.arith rfl rfl rfl rfl ?_
              refine WL.guard_yes rfl rfl ?_
              refine WL.bool_neq rfl rfl tBo4_v rfl ?_
              refine WL.pick_true rfl rfl rfl ?_
              refine WL.assign rfl rfl ?_
              refine WL.nil ?_
              refine WE.then_normal ?_
              refine WC.seq ?_
              refine WC.seq ?_
              refine WC.region ?_
              refine WL.move rfl rfl ?_
              refine WL.nil ?_
              refine WE.then_normal ?_
              refine WC.condT rfl (fun h4 => ?_) (fun h4 => ?_)
              · try simp at h4
                try (exfalso; omega)
                all_goals (
                  refine WC.region ?_
                  refine WL.callE okF67_v rfl rfl (trap_spec _ I) (fun v I1 C1 _ hv => False.elim hv) (fun v I1 C1 _ hv => ?_)
                  obtain ⟨hv1, hv2, hv3⟩ := hv
                  have hv2 := hv2.symm
                  subst hv1; subst hv2; subst hv3
                  refine WE.then_panic ?_
                  refine WE.panicE ?_
                  refine ⟨⟨rfl, rfl, rfl⟩, ?_⟩
                  simp only [*]
                  simp
                  omega
                )
              · try simp at h4
                try (exfalso; omega)
                all_goals (
                  refine WC.skip ?_
                  refine WE.then_normal ?_
                  refine WC.seq ?_
                  refine WC.region ?_
                  refine WL.move rfl rfl ?_
                  refine WL.assign rfl rfl ?_
                  refine WL.nil ?_
                  refine WE.then_normal ?_
                  refine WC.ret ?_
                  refine WE.retE rfl (.cons (.tmp rfl) .nil) rfl ?_
                  refine ⟨⟨?_, rfl, rfl⟩, ?_⟩
                  · simp only [*, tupleOf]; simp; omega
                  · simp only [*]; simp; omega
                )
            )
          · try simp at h3
            try (exfalso; omega)
            all_goals (
              refine WL.guard_no rfl rfl rfl rfl ?_
              refine WL.guard_no rfl rfl rfl rfl ?_
              refine WL.guard_no rfl rfl rfl rfl ?_
              refine WL.guard_no rfl rfl rfl rfl ?_
              refine WL.guard_no rfl rfl rfl rfl ?_
              refine WL.pick_false rfl rfl rfl ?_
              refine WL.assign rfl rfl ?_
              refine WL.nil ?_
              refine WE.then_normal ?_
              refine WC.seq ?_
              refine WC.seq ?_
              refine WC.region ?_
              refine WL.move rfl rfl ?_
              refine WL.nil ?_
              refine WE.then_normal ?_
              refine WC.cond_false rfl ?_
              refine WC.skip ?_
              refine WE.then_normal ?_
              refine WC.seq ?_
              refine WC.region ?_
              refine WL.move rfl rfl ?_
              refine WL.assign rfl rfl ?_
              refine WL.nil ?_
              refine WE.then_normal ?_
              refine WC.ret ?_
              refine WE.retE rfl (.cons (.tmp rfl) .nil) rfl ?_
              refine ⟨⟨?_, rfl, rfl⟩, ?_⟩
              · simp only [*, tupleOf]; simp; omega
              · simp only [*]; simp; omega
            )
        )
      · try simp at h2
        try (exfalso; omega)
        all_goals (
          refine WC.skip ?_
          refine WE.then_normal ?_
          refine WC.seq ?_
          refine WC.seq ?_
          refine WC.region ?_
          refine WL.move rfl rfl ?_
          refine WL.nil ?_
          refine WE.then_normal ?_
          refine WC.condT rfl (fun h5 => ?_) (fun h5 => ?_)
          · try simp at h5
            try (exfalso; omega)
            all_goals (
              refine WC.region ?_
              refine WL.callE okF67_v rfl rfl (trap_spec _ I) (fun v I1 C1 _ hv => False.elim hv) (fun v I1 C1 _ hv => ?_)
              obtain ⟨hv1, hv2, hv3⟩ := hv
              have hv2 := hv2.symm
              subst hv1; subst hv2; subst hv3
              refine WE.then_panic ?_
              refine WE.panicE ?_
              refine ⟨⟨rfl, rfl, rfl⟩, ?_⟩
              simp only [*]
              simp
              omega
            )
          · try simp at h5
            try (exfalso; omega)
            all_goals (
              refine WC.skip ?_
              refine WE.then_normal ?_
              refine WC.seq ?_
              refine WC.region ?_
              refine WL.move rfl rfl ?_
              refine WL.assign rfl rfl ?_
              refine WL.nil ?_
              refine WE.then_normal ?_
              refine WC.ret ?_
              refine WE.retE rfl (.cons (.tmp rfl) .nil) rfl ?_
              refine ⟨⟨?_, rfl, rfl⟩, ?_⟩
              · simp only [*, tupleOf]; simp; omega
              · simp only [*]; simp; omega
            )
        )
    )
  · try simp at h1
    try (exfalso; omega)
    all_goals (
      refine WL.guard_no rfl rfl rfl rfl ?_
      refine WL.guard_no rfl rfl rfl rfl ?_
      refine WL.guard_no rfl rfl rfl rfl ?_
      refine WL.guard_no rfl rfl rfl rfl ?_
      refine WL.guard_no rfl rfl rfl rfl ?_
      refine WL.pick_false rfl rfl rfl ?_
      refine WL.assign rfl rfl ?_
      refine WL.nil ?_
      refine WE.then_normal ?_
      refine WC.seq ?_
      refine WC.seq ?_
      refine WC.region ?_
      refine WL.move rfl rfl ?_
      refine WL.nil ?_
      refine WE.then_normal ?_
      refine WC.condT rfl (fun h6 => ?_) (fun h6 => ?_)
      · try simp at h6
        try (exfalso; omega)
        all_goals (
          refine WC.seq ?_
          refine WC.region ?_
          refine WL.move rfl rfl ?_
          refine WL.move rfl rfl ?_
          refine WL.arith rfl rfl rfl rfl ?_
          rw [hc2]
          refine WL.assign rfl rfl ?_
          refine WL.nil ?_
          refine WE.then_normal ?_
          refine WC.region ?_
          refine WL.move rfl rfl ?_
          refine WL.arith rfl rfl rfl rfl ?_
          refine WL.move rfl rfl ?_
          refine WL.arith rfl rfl rfl rfl ?_
          refine WL.bool_neq rfl rfl tBo4_v rfl ?_
          refine WL.move rfl rfl ?_
          refine WL.split 33 rfl (fun h7 => ?_) (fun h7 => ?_)
          · try simp at h7
            try (exfalso; omega)
            all_goals (
              refine WL.guard_yes rfl rfl ?_
              refine WL.move rfl rfl ?_
              refine WL.guard_yes rfl rfl ?_
              refine WL.arith rfl rfl rfl rfl ?_
              refine WL.guard_yes rfl rfl ?_
              refine WL.move rfl rfl ?_
              refine WL.guard_yes rfl rfl ?_
              refine WL.arith rfl rfl rfl rfl ?_
              refine WL.guard_yes rfl rfl ?_
              refine WL.bool_neq rfl rfl tBo4_v rfl ?_
              refine WL.pick_true rfl rfl rfl ?_
              refine WL.assign rfl rfl ?_
              refine WL.nil ?_
              refine WE.then_normal ?_
              refine WC.seq ?_
              refine WC.seq ?_
              refine WC.region ?_
              refine WL.move rfl rfl ?_
              refine WL.nil ?_
              refine WE.then_normal ?_
              refine WC.condT rfl (fun h8 => ?_) (fun h8 => ?_)
              · try simp at h8
                try (exfalso; omega)
                all_goals (
                  refine WC.region ?_
                  refine WL.callE okF67_v rfl rfl (trap_spec _ I) (fun v I1 C1 _ hv => False.elim hv) (fun v I1 C1 _ hv => ?_)
                  obtain ⟨hv1, hv2, hv3⟩ := hv
                  have hv2 := hv2.symm
                  subst hv1; subst hv2; subst hv3
                  refine WE.then_panic ?_
                  refine WE.panicE ?_
                  refine ⟨⟨rfl, rfl, rfl⟩, ?_⟩
                  simp only [*]
                  simp
                  omega
                )
              · try simp at h8
                try (exfalso; omega)
                all_goals (
                  refine WC.skip ?_
                  refine WE.then_normal ?_
                  refine WC.seq ?_
                  refine WC.region ?_
                  refine WL.move rfl rfl ?_
                  refine WL.assign rfl rfl ?_
                  refine WL.nil ?_
                  refine WE.then_normal ?_
                  refine WC.ret ?_
                  refine WE.retE rfl (.cons (.tmp rfl) .nil) rfl ?_
                  refine ⟨⟨?_, rfl, rfl⟩, ?_⟩
                  · simp only [*, tupleOf]; simp; omega
                  · simp only [*]; simp; omega
                )
            )
          · try simp at h7
            try (exfalso; omega)
            all_goals (
              refine WL.guard_no rfl rfl rfl rfl ?_
              refine WL.guard_no rfl rfl rfl rfl ?_
              refine WL.guard_no rfl rfl rfl rfl ?_
              refine WL.guard_no rfl rfl rfl rfl ?_
              refine WL.guard_no rfl rfl rfl rfl ?_
              refine WL.pick_false rfl rfl rfl ?_
              refine WL.assign rfl rfl ?_
              refine WL.nil ?_
              refine WE.then_normal ?_
              refine WC.seq ?_
              refine WC.seq ?_
              refine WC.region ?_
              refine WL.move rfl rfl ?_
              refine WL.nil ?_
              refine WE.then_normal ?_
              refine WC.cond_false rfl ?_
              refine WC.skip ?_
              refine WE.then_normal ?_
              refine WC.seq ?_
              refine WC.region ?_
              refine WL.move rfl rfl ?_
              refine WL.assign rfl rfl ?_
              refine WL.nil ?_
              refine WE.then_normal ?_
              refine WC.ret ?_
              refine WE.retE rfl (.cons (.tmp rfl) .nil) rfl ?_
              refine ⟨⟨?_, rfl, rfl⟩, ?_⟩
              · simp only [*, tupleOf]; simp; omega
              · simp only [*]; simp; omega
            )
        )
      · try simp at h6
        try (exfalso; omega)
        all_goals (
          refine WC.skip ?_
          refine WE.then_normal ?_
          refine WC.seq ?_
          refine WC.seq ?_
          refine WC.region ?_
          refine WL.move rfl rfl ?_
          refine WL.nil ?_
          refine WE.then_normal ?_
          refine WC.cond_false rfl ?_
          refine WC.skip ?_
          refine WE.then_normal ?_
          refine WC.seq ?_
          refine WC.region ?_
          refine WL.move rfl rfl ?_
          refine WL.assign rfl rfl ?_
          refine WL.nil ?_
          refine WE.then_normal ?_
          refine WC.ret ?_
          refine WE.retE rfl (.cons (.tmp rfl) .nil) rfl ?_
          refine ⟨⟨?_, rfl, rfl⟩, ?_⟩
          · simp only [*, tupleOf]; simp; omega
          · simp only [*]; simp; omega
        )
    )
theorem quotient_spec (a b : Int) (I : Mem) (ha : Rg a) (hb : Rg b) : SpecE Tryd.prog 62 [.int .i64 a, .int .i64 b] I [] (fun v I' C' => (v = .tuple [.int .i64 (a.tdiv b), .int .i64 (a.tmod b)].toArray ∧ I' = I ∧ C' = []) ∧ b ≠ 0 ∧ ¬ (b = -1 ∧ a = -9223372036854775808)) (fun v I' C' => I' = I ∧ C' = [] ∧ ((v = stopV 92 2 ∧ b = 0) ∨ (v = stopV 92 1 ∧ b = -1 ∧ a = -9223372036854775808))) := by
  refine SpecE.intro Tryd.func62 rfl rfl fun Γ => ?_
  show WC _ _ _ _ [] [(0, _), (1, _)] _ _ _
  refine WC.seq ?_
  refine WC.region ?_
  refine WL.assign rfl rfl ?_
  refine WL.assign rfl rfl ?_
  refine WL.nil ?_
  refine WE.then_normal ?_
  refine WC.seq ?_
  refine WC.seq ?_
  refine WC.region ?_
  refine WL.move rfl rfl ?_
  refine WL.arith rfl rfl rfl rfl ?_
  refine WL.nil ?_
  refine WE.then_normal ?_
  refine WC.condT rfl (fun h1 => ?_) (fun h1 => ?_)
  · try simp at h1
    try (exfalso; omega)
    all_goals (
      refine WC.region ?_
      refine WL.callE okF67_v rfl rfl (trap_spec _ I) (fun v I1 C1 _ hv => False.elim hv) (fun v I1 C1 _ hv => ?_)
      obtain ⟨hv1, hv2, hv3⟩ := hv
      have hv2 := hv2.symm
      subst hv1; subst hv2; subst hv3
      refine WE.then_panic ?_
      refine WE.panicE ?_
      refine ⟨rfl, rfl, ?_⟩
      first | exact .inl ⟨rfl, by omega⟩ | exact .inr ⟨rfl, by omega, by omega⟩
    )
  · try simp at h1
    try (exfalso; omega)
    all_goals (
      refine WC.skip ?_
      refine WE.then_normal ?_
      refine WC.seq ?_
      refine WC.seq ?_
      refine WC.region ?_
      refine WL.move rfl rfl ?_
      refine WL.arith rfl rfl rfl rfl ?_
      refine WL.move rfl rfl ?_
      refine WL.split 11 rfl (fun h2 => ?_) (fun h2 => ?_)
      · try simp at h2
        try (exfalso; omega)
        all_goals (
          refine WL.guard_yes rfl rfl ?_
          refine WL.move rfl rfl ?_
          refine WL.guard_yes rfl rfl ?_
          refine WL.arith rfl rfl rfl rfl ?_
          refine WL.pick_true rfl rfl rfl ?_
          refine WL.nil ?_
          refine WE.then_normal ?_
          refine WC.condT rfl (fun h3 => ?_) (fun h3 => ?_)
          · try simp at h3
            try (exfalso; omega)
            all_goals (
              refine WC.region ?_
              refine WL.callE okF67_v rfl rfl (trap_spec _ I) (fun v I1 C1 _ hv => False.elim hv) (fun v I1 C1 _ hv => ?_)
              obtain ⟨hv1, hv2, hv3⟩ := hv
              have hv2 := hv2.symm
              subst hv1; subst hv2; subst hv3
              refine WE.then_panic ?_
              refine WE.panicE ?_
              refine ⟨rfl, rfl, ?_⟩
              first | exact .inl ⟨rfl, by omega⟩ | exact .inr ⟨rfl, by omega, by omega⟩
            )
          · try simp at h3
            try (exfalso; omega)
            all_goals (
              refine WC.skip ?_
              refine WE.then_normal ?_
              refine WC.seq ?_
              refine WC.region_draw tMixed_v (by kernel_rfl) ?_
              refine WL.move rfl rfl ?_
              refine WL.move rfl rfl ?_
              refine WL.quo rfl rfl rfl (by omega) ?_
              rw [IntWalk.i64_in _ (tdiv_rg ha (by omega) (by omega))]
              refine WL.move rfl rfl ?_
              refine WL.move rfl rfl ?_
              refine WL.rem rfl rfl rfl (by first | omega | decide) ?_
              refine WL.assign rfl rfl ?_
              refine WL.assign rfl rfl ?_
              refine WL.nil ?_
              refine WE.then_normal ?_
              refine WC.ret ?_
              refine WE.retE rfl (.cons (.tmp rfl) (.cons (.tmp rfl) .nil)) rfl ?_
              exact ⟨⟨rfl, rfl, rfl⟩, by omega, by omega⟩
            )
        )
      · try simp at h2
        try (exfalso; omega)
        all_goals (
          refine WL.guard_no rfl rfl rfl rfl ?_
          refine WL.guard_no rfl rfl rfl rfl ?_
          refine WL.pick_false rfl rfl rfl ?_
          refine WL.nil ?_
          refine WE.then_normal ?_
          refine WC.cond_false rfl ?_
          refine WC.skip ?_
          refine WE.then_normal ?_
          refine WC.seq ?_
          refine WC.region_draw tMixed_v (by kernel_rfl) ?_
          refine WL.move rfl rfl ?_
          refine WL.move rfl rfl ?_
          refine WL.quo rfl rfl rfl (by omega) ?_
          rw [IntWalk.i64_in _ (tdiv_rg ha (by omega) (by omega))]
          refine WL.move rfl rfl ?_
          refine WL.move rfl rfl ?_
          refine WL.rem rfl rfl rfl (by first | omega | decide) ?_
          refine WL.assign rfl rfl ?_
          refine WL.assign rfl rfl ?_
          refine WL.nil ?_
          refine WE.then_normal ?_
          refine WC.ret ?_
          refine WE.retE rfl (.cons (.tmp rfl) (.cons (.tmp rfl) .nil)) rfl ?_
          exact ⟨⟨rfl, rfl, rfl⟩, by omega, by omega⟩
        )
    )
theorem absu_spec (a : Int) (I : Mem) (ha : Rg a) : SpecV Tryd.prog 81 ([] ++ [.int .i64 a] ++ []) I (.int .u64 (a.natAbs : Int)) := by
  unfold Rg at ha
  refine SpecV.intro Tryd.func81 rfl rfl fun w0 => ?_
  show WC _ _ _ _ [] [(0, _)] _ _ _
  refine WC.seq ?_
  refine WC.region ?_
  refine WL.assign rfl rfl ?_
  refine WL.nil ?_
  refine WE.then_normal ?_
  refine WC.seq ?_
  refine WC.seq ?_
  refine WC.region ?_
  refine WL.move rfl rfl ?_
  refine WL.arith rfl rfl rfl rfl ?_
  refine WL.nil ?_
  refine WE.then_normal ?_
  refine WC.condT rfl (fun h1 => ?_) (fun h1 => ?_)
  · try simp at h1
    all_goals (
      refine WC.seq ?_
      refine WC.region ?_
      refine WL.move rfl rfl ?_
      first | refine WL.add rfl rfl (by omega) rfl ?_ | refine WL.arith rfl rfl rfl rfl ?_
      refine WL.neg rfl rfl ?_
      rw [IntWalk.i64_in _ (by omega)]
      first | refine WL.convert_in rfl tI2_v tI125_v rfl (IntWalk.u64_in _ (by omega)) ?_ | refine WL.convert_int rfl tI2_v tI125_v rfl ?_
      refine WL.arith rfl rfl (by simp only [Fw.arith]; rw [IntWalk.u64_in _ (by omega)]) rfl ?_
      refine WL.assign rfl rfl ?_
      refine WL.nil ?_
      refine WE.then_normal ?_
      refine WC.ret ?_
      refine WE.then_ret ?_
      refine WE.retV [2] rfl rfl rfl ?_
      exact congrArg (Value.int .u64) (by omega)
    )
  · try simp at h1
    all_goals (
      refine WC.skip ?_
      refine WE.then_normal ?_
      refine WC.seq ?_
      refine WC.region ?_
      refine WL.move rfl rfl ?_
      first | refine WL.convert_in rfl tI2_v tI125_v rfl (IntWalk.u64_in _ (by omega)) ?_ | refine WL.convert_int rfl tI2_v tI125_v rfl ?_
      refine WL.assign rfl rfl ?_
      refine WL.nil ?_
      refine WE.then_normal ?_
      refine WC.ret ?_
      refine WE.retV [2] rfl rfl rfl ?_
      exact congrArg (Value.int .u64) (by omega)
    )
theorem mul64_spec (x y : Nat) (I : Mem) (hx : x < 18446744073709551616) (hy : y < 18446744073709551616) : SpecV Tryd.prog 82 [.int .u64 (x : Int), .int .u64 (y : Int)] I (.tuple [.int .u64 ((x * y / 18446744073709551616 : Nat) : Int), .int .u64 ((x * y % 18446744073709551616 : Nat) : Int)].toArray) := by
  have hx0 : x % 4294967296 < 4294967296 := by omega
  have hy0 : y % 4294967296 < 4294967296 := by omega
  have hx1 : x / 4294967296 < 4294967296 := by omega
  have hy1 : y / 4294967296 < 4294967296 := by omega
  have m00 := mul32 hx0 hy0
  have m10 := mul32 hx1 hy0
  have m01 := mul32 hx0 hy1
  have m11 := mul32 hx1 hy1
  have hhi := mul64_hi (x := x) (y := y)
  have hq : x * y / 18446744073709551616 < 18446744073709551616 := Nat.div_lt_of_lt_mul (Nat.mul_lt_mul'' hx hy)
  refine SpecV.intro Tryd.func82 rfl rfl fun w0 => ?_
  show WC _ _ _ _ [] [(0, _), (1, _)] _ _ _
  refine WC.seq ?_
  refine WC.region ?_
  refine WL.assign rfl rfl ?_
  refine WL.assign rfl rfl ?_
  refine WL.nil ?_
  refine WE.then_normal ?_
  refine WC.seq ?_
  refine WC.region ?_
  refine WL.move rfl rfl ?_
  refine WL.bits rfl rfl rfl rfl ?_
  rw [and_u64 hx]
  refine WL.assign rfl rfl ?_
  refine WL.nil ?_
  refine WE.then_normal ?_
  refine WC.seq ?_
  refine WC.region ?_
  refine WL.move rfl rfl ?_
  refine WL.shr_nat (j := 32) rfl rfl rfl (by decide) ?_
  refine WL.assign rfl rfl ?_
  refine WL.nil ?_
  refine WE.then_normal ?_
  refine WC.seq ?_
  refine WC.region ?_
  refine WL.move rfl rfl ?_
  refine WL.bits rfl rfl rfl rfl ?_
  rw [and_u64 hy]
  refine WL.assign rfl rfl ?_
  refine WL.nil ?_
  refine WE.then_normal ?_
  refine WC.seq ?_
  refine WC.region ?_
  refine WL.move rfl rfl ?_
  refine WL.shr_nat (j := 32) rfl rfl rfl (by decide) ?_
  refine WL.assign rfl rfl ?_
  refine WL.nil ?_
  refine WE.then_normal ?_
  refine WC.seq ?_
  refine WC.region ?_
  refine WL.move rfl rfl ?_
  refine WL.move rfl rfl ?_
  refine WL.arith rfl rfl rfl rfl ?_
  rw [mul_u64 hx0 hy0]
  refine WL.assign rfl rfl ?_
  refine WL.nil ?_
  refine WE.then_normal ?_
  refine WC.seq ?_
  refine WC.region ?_
  refine WL.move rfl rfl ?_
  refine WL.move rfl rfl ?_
  refine WL.arith rfl rfl rfl rfl ?_
  rw [mul_u64 hx1 hy0]
  refine WL.move rfl rfl ?_
  refine WL.shr_nat (j := 32) rfl rfl rfl (by decide) ?_
  refine WL.arith rfl rfl rfl rfl ?_
  rw [add_u64 (by omega)]
  refine WL.assign rfl rfl ?_
  refine WL.nil ?_
  refine WE.then_normal ?_
  refine WC.seq ?_
  refine WC.region ?_
  refine WL.move rfl rfl ?_
  refine WL.bits rfl rfl rfl rfl ?_
  rw [and_u64 (by omega)]
  refine WL.assign rfl rfl ?_
  refine WL.nil ?_
  refine WE.then_normal ?_
  refine WC.seq ?_
  refine WC.region ?_
  refine WL.move rfl rfl ?_
  refine WL.shr_nat (j := 32) rfl rfl rfl (by decide) ?_
  refine WL.assign rfl rfl ?_
  refine WL.nil ?_
  refine WE.then_normal ?_
  refine WC.seq ?_
  refine WC.region ?_
  refine WL.move rfl rfl ?_
  refine WL.move rfl rfl ?_
  refine WL.move rfl rfl ?_
  refine WL.arith rfl rfl rfl rfl ?_
  rw [mul_u64 hx0 hy1]
  refine WL.arith rfl rfl rfl rfl ?_
  rw [add_u64 (by omega)]
  refine WL.assign rfl rfl ?_
  refine WL.nil ?_
  refine WE.then_normal ?_
  refine WC.seq ?_
  refine WC.region ?_
  refine WL.move rfl rfl ?_
  refine WL.move rfl rfl ?_
  refine WL.arith rfl rfl rfl rfl ?_
  rw [mul_u64 hx1 hy1]
  refine WL.move rfl rfl ?_
  refine WL.arith rfl rfl rfl rfl ?_
  rw [add_u64 (by omega)]
  refine WL.move rfl rfl ?_
  refine WL.shr_nat (j := 32) rfl rfl rfl (by decide) ?_
  refine WL.arith rfl rfl rfl rfl ?_
  rw [add_u64 (by omega)]
  refine WL.assign rfl rfl ?_
  refine WL.nil ?_
  refine WE.then_normal ?_
  refine WC.seq ?_
  refine WC.region ?_
  refine WL.move rfl rfl ?_
  refine WL.move rfl rfl ?_
  refine WL.arith rfl rfl rfl rfl ?_
  rw [mulW_u64]
  refine WL.assign rfl rfl ?_
  refine WL.nil ?_
  refine WE.then_normal ?_
  refine WC.ret ?_
  refine WE.retV [4, 5] rfl rfl rfl ?_
  show Value.tuple [Value.int _ _, Value.int _ _].toArray = _
  rw [show (2 : Nat) ^ 32 = 4294967296 from rfl, hhi]
theorem product_spec (a b : Int) (I : Mem) (ha : Rg a) (hb : Rg b) : SpecE Tryd.prog 61 [.int .i64 a, .int .i64 b] I [] (fun v I' C' => (v = .int .i64 (a * b) ∧ I' = I ∧ C' = []) ∧ Rg (a * b)) (fun v I' C' => (v = stopV 92 1 ∧ I' = I ∧ C' = []) ∧ ¬ Rg (a * b)) := by
  obtain ⟨N, p, hN, hp, hs⟩ := mulAbs2 a b
  rw [hp]
  have hal := natAbs_lt ha
  have hbl := natAbs_lt hb
  refine SpecE.intro Tryd.func61 rfl rfl fun Γ => ?_
  show WC _ _ _ _ [] [(0, _), (1, _)] _ _ _
  refine WC.seq ?_
  refine WC.region ?_
  refine WL.assign rfl rfl ?_
  refine WL.nil ?_
  refine WE.then_normal ?_
  refine WC.seq ?_
  refine WC.region ?_
  refine WL.assign rfl rfl ?_
  refine WL.nil ?_
  refine WE.then_normal ?_
  refine WC.seq ?_
  refine WC.region ?_
  refine WL.move rfl rfl ?_
  refine WL.move rfl rfl ?_
  refine WL.callVal okF81_v rfl rfl rfl (absu_spec a I ha) ?_
  refine WL.move rfl rfl ?_
  refine WL.move rfl rfl ?_
  refine WL.callVal okF81_v rfl rfl rfl (absu_spec b I hb) ?_
  refine WL.callV okF82_v rfl rfl (mul64_spec a.natAbs b.natAbs I hal hbl) ?_
  rw [hN]
  refine WL.move rfl rfl ?_
  refine WL.extract rfl rfl rfl ?_
  refine WL.extract rfl rfl rfl ?_
  refine WL.assign rfl rfl ?_
  refine WL.assign rfl rfl ?_
  refine WL.nil ?_
  refine WE.then_normal ?_
  refine WC.seq ?_
  refine WC.region ?_
  refine WL.move rfl rfl ?_
  refine WL.arith rfl rfl rfl rfl ?_
  refine WL.move rfl rfl ?_
  refine WL.arith rfl rfl rfl rfl ?_
  refine WL.bool_neq rfl rfl tBo4_v rfl ?_
  refine WL.assign rfl rfl ?_
  refine WL.nil ?_
  refine WE.then_normal ?_
  refine WC.seq ?_
  refine WC.block ?_
  refine WC.seq ?_
  refine WC.region ?_
  refine WL.move rfl rfl ?_
  refine WL.arith rfl rfl rfl rfl ?_
  refine WL.move rfl rfl ?_
  refine WL.split 27 rfl (fun h1 => ?_) (fun h1 => ?_)
  · try simp at h1
    all_goals (
      refine WL.guard_no rfl rfl rfl rfl ?_
      refine WL.guard_no rfl rfl rfl rfl ?_
      refine WL.pick_true rfl rfl rfl ?_
      refine WL.move rfl rfl ?_
      refine WL.guard_no rfl rfl rfl rfl ?_
      refine WL.guard_no rfl rfl rfl rfl ?_
      refine WL.guard_no rfl rfl rfl rfl ?_
      refine WL.guard_undef rfl rfl rfl ?_
      refine WL.guard_undef rfl rfl rfl ?_
      refine WL.guard_no rfl rfl rfl rfl ?_
      refine WL.pick_true rfl rfl rfl ?_
      refine WL.assign rfl rfl ?_
      refine WL.nil ?_
      refine WE.then_normal ?_
      refine WC.cond_true rfl ?_
      refine WC.region ?_
      refine WL.callE okF67_v rfl rfl (trap_spec _ I) (fun v I1 C1 _ hv => False.elim hv) (fun v I1 C1 _ hv => ?_)
      obtain ⟨hv1, hv2, hv3⟩ := hv
      have hv2 := hv2.symm
      subst hv1; subst hv2; subst hv3
      refine WE.block_panic ?_
      refine WE.then_panic ?_
      refine WE.panicE ?_
      refine ⟨⟨rfl, rfl, rfl⟩, ?_⟩
      unfold Rg
      omega
    )
  · try simp at h1
    all_goals (
      refine WL.guard_yes rfl rfl ?_
      refine WL.move rfl rfl ?_
      refine WL.guard_yes rfl rfl ?_
      refine WL.arith rfl rfl rfl rfl ?_
      refine WL.pick_false rfl rfl rfl ?_
      refine WL.move rfl rfl ?_
      refine WL.split 31 rfl (fun h2 => ?_) (fun h2 => ?_)
      · try simp at h2
        all_goals (
          refine WL.guard_no rfl rfl rfl rfl ?_
          refine WL.guard_no rfl rfl rfl rfl ?_
          refine WL.guard_no rfl rfl rfl rfl ?_
          refine WL.guard_undef rfl rfl rfl ?_
          refine WL.guard_undef rfl rfl rfl ?_
          refine WL.guard_no rfl rfl rfl rfl ?_
          refine WL.pick_true rfl rfl rfl ?_
          refine WL.assign rfl rfl ?_
          refine WL.nil ?_
          refine WE.then_normal ?_
          refine WC.cond_true rfl ?_
          refine WC.region ?_
          refine WL.callE okF67_v rfl rfl (trap_spec _ I) (fun v I1 C1 _ hv => False.elim hv) (fun v I1 C1 _ hv => ?_)
          obtain ⟨hv1, hv2, hv3⟩ := hv
          have hv2 := hv2.symm
          subst hv1; subst hv2; subst hv3
          refine WE.block_panic ?_
          refine WE.then_panic ?_
          refine WE.panicE ?_
          refine ⟨⟨rfl, rfl, rfl⟩, ?_⟩
          unfold Rg
          omega
        )
      · try simp at h2
        all_goals (
          refine WL.guard_yes rfl rfl ?_
          refine WL.move rfl rfl ?_
          refine WL.guard_yes rfl rfl ?_
          refine WL.arith rfl rfl rfl rfl ?_
          refine WL.guard_yes rfl rfl ?_
          refine WL.move rfl rfl ?_
          refine WL.split 34 rfl (fun h3 => ?_) (fun h3 => ?_)
          · try simp at h3
            all_goals (
              refine WL.guard_yes rfl rfl ?_
              refine WL.move rfl rfl ?_
              refine WL.guard_yes rfl rfl ?_
              refine WL.not rfl rfl ?_
              refine WL.guard_yes rfl rfl ?_
              refine WL.pick_true rfl rfl rfl ?_
              refine WL.pick_false rfl rfl rfl ?_
              refine WL.assign rfl rfl ?_
              refine WL.nil ?_
              refine WE.then_normal ?_
              refine WC.condT rfl (fun h4 => ?_) (fun h4 => ?_)
              · try simp at h4
                all_goals (
                  refine WC.region ?_
                  refine WL.callE okF67_v rfl rfl (trap_spec _ I) (fun v I1 C1 _ hv => False.elim hv) (fun v I1 C1 _ hv => ?_)
                  obtain ⟨hv1, hv2, hv3⟩ := hv
                  have hv2 := hv2.symm
                  subst hv1; subst hv2; subst hv3
                  refine WE.block_panic ?_
                  refine WE.then_panic ?_
                  refine WE.panicE ?_
                  refine ⟨⟨rfl, rfl, rfl⟩, ?_⟩
                  unfold Rg
                  omega
                )
              · try simp at h4
                all_goals (
                  refine WC.seq ?_
                  refine WC.region ?_
                  refine WL.move rfl rfl ?_
                  refine WL.assign rfl rfl ?_
                  refine WL.nil ?_
                  refine WE.then_normal ?_
                  refine WC.condT rfl (fun h5 => ?_) (fun h5 => ?_)
                  · try simp at h5
                    all_goals (
                      refine WC.seq ?_
                      refine WC.region ?_
                      refine WL.move rfl rfl ?_
                      refine WL.convert_int rfl tI125_v tI2_v rfl ?_
                      obtain ⟨c1, hc1, hr1, hx1⟩ := wrap64 (x := ((N % 18446744073709551616 : Nat) : Int)) (by omega)
                      rw [hc1]
                      refine WL.neg rfl rfl ?_
                      obtain ⟨c2, hc2, hr2, hx2⟩ := wrap64 (x := 0 - c1) (by omega)
                      rw [hc2]
                      refine WL.assign rfl rfl ?_
                      refine WL.nil ?_
                      refine WE.then_normal ?_
                      refine WC.ret ?_
                      refine WE.block_ret ?_
                      refine WE.then_ret ?_
                      refine WE.retE rfl (.cons (.tmp rfl) .nil) rfl ?_
                      refine ⟨⟨congrArg (Value.int .i64) (by omega), rfl, rfl⟩, by unfold Rg; omega⟩
                    )
                  · try simp at h5
                    all_goals (
                      refine WC.skip ?_
                      refine WE.block_normal ?_
                      refine WE.then_normal ?_
                      refine WC.seq ?_
                      refine WC.region ?_
                      refine WL.move rfl rfl ?_
                      first | refine WL.convert_in rfl tI125_v tI2_v rfl (IntWalk.i64_in _ (by omega)) ?_ | refine WL.convert_int rfl tI125_v tI2_v rfl ?_
                      refine WL.assign rfl rfl ?_
                      refine WL.nil ?_
                      refine WE.then_normal ?_
                      refine WC.ret ?_
                      refine WE.retE rfl (.cons (.tmp rfl) .nil) rfl ?_
                      refine ⟨⟨congrArg (Value.int .i64) (by omega), rfl, rfl⟩, by unfold Rg; omega⟩
                    )
                )
            )
          · try simp at h3
            all_goals (
              refine WL.guard_no rfl rfl rfl rfl ?_
              refine WL.guard_no rfl rfl rfl rfl ?_
              refine WL.guard_yes rfl rfl ?_
              refine WL.pick_false rfl rfl rfl ?_
              refine WL.pick_false rfl rfl rfl ?_
              refine WL.assign rfl rfl ?_
              refine WL.nil ?_
              refine WE.then_normal ?_
              refine WC.cond_false rfl ?_
              refine WC.seq ?_
              refine WC.region ?_
              refine WL.move rfl rfl ?_
              refine WL.assign rfl rfl ?_
              refine WL.nil ?_
              refine WE.then_normal ?_
              refine WC.condT rfl (fun h6 => ?_) (fun h6 => ?_)
              · try simp at h6
                all_goals (
                  refine WC.seq ?_
                  refine WC.region ?_
                  refine WL.move rfl rfl ?_
                  refine WL.convert_int rfl tI125_v tI2_v rfl ?_
                  obtain ⟨c1, hc1, hr1, hx1⟩ := wrap64 (x := ((N % 18446744073709551616 : Nat) : Int)) (by omega)
                  rw [hc1]
                  refine WL.neg rfl rfl ?_
                  obtain ⟨c2, hc2, hr2, hx2⟩ := wrap64 (x := 0 - c1) (by omega)
                  rw [hc2]
                  refine WL.assign rfl rfl ?_
                  refine WL.nil ?_
                  refine WE.then_normal ?_
                  refine WC.ret ?_
                  refine WE.block_ret ?_
                  refine WE.then_ret ?_
                  refine WE.retE rfl (.cons (.tmp rfl) .nil) rfl ?_
                  refine ⟨⟨congrArg (Value.int .i64) (by omega), rfl, rfl⟩, by unfold Rg; omega⟩
                )
              · try simp at h6
                all_goals (
                  refine WC.skip ?_
                  refine WE.block_normal ?_
                  refine WE.then_normal ?_
                  refine WC.seq ?_
                  refine WC.region ?_
                  refine WL.move rfl rfl ?_
                  first | refine WL.convert_in rfl tI125_v tI2_v rfl (IntWalk.i64_in _ (by omega)) ?_ | refine WL.convert_int rfl tI125_v tI2_v rfl ?_
                  refine WL.assign rfl rfl ?_
                  refine WL.nil ?_
                  refine WE.then_normal ?_
                  refine WC.ret ?_
                  refine WE.retE rfl (.cons (.tmp rfl) .nil) rfl ?_
                  refine ⟨⟨congrArg (Value.int .i64) (by omega), rfl, rfl⟩, by unfold Rg; omega⟩
                )
            )
        )
    )
end Go.Proofs.YtddkkmdbolgnlaaDoor.Fw
