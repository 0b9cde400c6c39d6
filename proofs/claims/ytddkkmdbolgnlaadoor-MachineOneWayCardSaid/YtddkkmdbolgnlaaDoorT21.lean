/- A part of the proof: steps of the walk and laws that the claim's theorem rests on; each lemma states its own conditions. -/
import Derived.Test.YtddkkmdbolgnlaaDoorT20
import Derived.Test.YtddkkmdbolgnlaaDoorWalkF
import Derived.Test.YtddkkmdbolgnlaaDoorProg
set_option linter.unusedVariables false
set_option linter.unusedSimpArgs false
namespace Go.Proofs.YtddkkmdbolgnlaaDoor.Fw
open Go.Proofs
set_option maxRecDepth 100000
set_option linter.unusedVariables false
set_option linter.unusedSimpArgs false
theorem tZ34_s : zeroT Tryd.prog 34 = some (.agg [(.int .u8 0), (.int .i64 0), (.int .u8 0), (.int .u8 0), (.slice none 0 0)].toArray) := by kernel_rfl
theorem okF26_s : okFn Tryd.prog 26 Tryd.f26 := ⟨Tryd.func26, by kernel_rfl, rfl⟩
theorem tSt34_s : structT Tryd.prog 34 = some [(0, 1), (1, 1), (2, 1), (3, 1), (4, 1)] := by kernel_rfl
theorem tS34_s : szT Tryd.prog 34 = some 5 := by kernel_rfl
theorem tF69_9_s : offT Tryd.prog 69 9 = some 27 := by kernel_rfl
theorem tF34_0_s : offT Tryd.prog 34 0 = some 0 := by kernel_rfl
theorem tA30_s : aggT Tryd.prog 30 = some false := by kernel_rfl
theorem okF12_s : okFn Tryd.prog 12 Tryd.f12 := ⟨Tryd.func12, by kernel_rfl, rfl⟩
theorem tA34_s : aggT Tryd.prog 34 = some true := by kernel_rfl
theorem okF27_s : okFn Tryd.prog 27 Tryd.f27 := ⟨Tryd.func27, by kernel_rfl, rfl⟩
theorem okF31_s : okFn Tryd.prog 31 Tryd.f31 := ⟨Tryd.func31, by kernel_rfl, rfl⟩
theorem stepN_spec (c : CodeD) (m : MachD) (bm Em Eh : Nat) (C : Chunk) (I : Mem) (k : Nat) (hM : MC I c m bm Em Eh C) (hw : WFm c m) (hk : k ≤ 4194304) (hst : m.steps + k ≤ 16777216) : Spec Tryd.prog 10 [.pointer (some ⟨bm, 0, none⟩), .int .i64 (k : Int)] I C (fun v I' C' => I' = I ∧ ∃ A kx Cn C2, v = .tuple [outV (runM c k m) A kx, .int .i64 0].toArray ∧ SlO 1 (ints (runM c k m).printed) A kx Cn ∧ C' = Cn ++ C2 ∧ MC I c (runM c k m) bm Em Eh C2) := by
  obtain ⟨h, Cw, Cc, Cp, hM5, rfl⟩ := id hM
  have hr : (mvOf h c.main m).regs.length = 16 := by rw [mvOf, ints_len]; exact hw.regs
  have hcn := codeN hM5.code
  refine Spec.intro Tryd.func10 rfl rfl fun Γ => ?_
  show WC _ _ _ _ [] [(0, _), (1, _)] _ _ _
  refine WC.regroup [mcObj bm Em (mvOf h c.main m), Cw, hpObj h.bh Eh m.heap, Cc, Cp] (by simp) ?_
  refine WC.seq ?_
  refine WC.region ?_
  refine WL.alloc tZ34_s rfl rfl (fun b1 => ?_)
  refine WL.assign rfl rfl ?_
  refine WL.nil ?_
  refine WE.then_normal ?_
  refine WC.seq ?_
  refine WC.seq ?_
  refine WC.region ?_
  refine WL.move rfl rfl ?_
  refine WL.callQ 1 okF26_s rfl rfl rfl (there_spec (mvOf h c.main m) bm Em h.bh I hr rfl) ?_
  refine WL.not rfl rfl ?_
  refine WL.nil ?_
  refine WE.then_normal ?_
  refine WC.condT rfl (fun h2 => ?_) (fun h2 => ?_)
  · try simp at h2
    try (exfalso; first | omega | (simp at *; done))
    all_goals (
      refine WC.seq ?_
      refine WC.region ?_
      refine WL.build_struct rfl tZ34_s tSt34_s rfl rfl rfl ?_
      refine WL.store 0 rfl rfl rfl rfl tS34_s rfl rfl rfl rfl rfl ?_
      refine WL.assign rfl rfl ?_
      refine WL.nil ?_
      refine WE.then_normal ?_
      refine WC.ret ?_
      refine WE.then_ret ?_
      skip
    )
  · try simp at h2
    try (exfalso; first | omega | (simp at *; done))
    all_goals (
      refine WC.skip ?_
      refine WE.then_normal ?_
      refine WC.seq ?_
      refine WC.seq ?_
      refine WC.region ?_
      refine WL.move rfl rfl ?_
      refine WL.arith rfl rfl rfl rfl ?_
      refine WL.move rfl rfl ?_
      refine WL.split 12 rfl (fun h3 => ?_) (fun h3 => ?_)
      · try simp at h3
        try (exfalso; first | omega | (simp at *; done))
        all_goals (
          refine WL.guard_no rfl rfl rfl rfl ?_
          refine WL.guard_no rfl rfl rfl rfl ?_
          refine WL.pick_true rfl rfl rfl ?_
          refine WL.nil ?_
          refine WE.then_normal ?_
          refine WC.cond_true rfl ?_
          refine WC.seq ?_
          refine WC.region ?_
          refine WL.build_struct rfl tZ34_s tSt34_s rfl rfl rfl ?_
          refine WL.store 0 rfl rfl rfl rfl tS34_s rfl rfl rfl rfl rfl ?_
          refine WL.assign rfl rfl ?_
          refine WL.nil ?_
          refine WE.then_normal ?_
          refine WC.ret ?_
          refine WE.then_ret ?_
          skip
        )
      · try simp at h3
        try (exfalso; first | omega | (simp at *; done))
        all_goals (
          refine WL.guard_yes rfl rfl ?_
          refine WL.move rfl rfl ?_
          refine WL.guard_yes rfl rfl ?_
          refine WL.arith rfl rfl rfl rfl ?_
          refine WL.pick_false rfl rfl rfl ?_
          refine WL.nil ?_
          refine WE.then_normal ?_
          refine WC.condT rfl (fun h4 => ?_) (fun h4 => ?_)
          · try simp at h4
            try (exfalso; first | omega | (simp at *; done))
            all_goals (
              refine WC.seq ?_
              refine WC.region ?_
              refine WL.build_struct rfl tZ34_s tSt34_s rfl rfl rfl ?_
              refine WL.store 0 rfl rfl rfl rfl tS34_s rfl rfl rfl rfl rfl ?_
              refine WL.assign rfl rfl ?_
              refine WL.nil ?_
              refine WE.then_normal ?_
              refine WC.ret ?_
              refine WE.then_ret ?_
              skip
            )
          · try simp at h4
            try (exfalso; first | omega | (simp at *; done))
            all_goals (
              refine WC.skip ?_
              refine WE.then_normal ?_
              refine WC.seq ?_
              refine WC.seq ?_
              refine WC.region ?_
              refine WL.move rfl rfl ?_
              refine WL.move rfl rfl ?_
              refine WL.nil ?_
              refine WE.then_normal ?_
              refine WC.block ?_
              refine WC.pick [1, 2, 3, 4, 5, 0] rfl rfl ?_
              refine WC.perm (fun _ hs => hs.join5) ?_
              refine WC.loopG (X := Nat × Chunk) [0, 4, 5, 17, 29, 30] rfl (fun x => [(18, .int .i64 (x.1 : Int))]) (fun x => I) (fun x => [x.2, [(b1, .cells [.int .u8 0, .int .i64 0, .int .u8 0, .int .u8 0, .slice none 0 0].toArray 34 (0, 0))]]) (fun x => x.1 ≤ k ∧ MC I c (runM c x.1 m) bm Em Eh x.2) (fun x => k - x.1) (0, mcObj bm Em (mvOf h c.main m) ++ (Cw ++ (hpObj h.bh Eh m.heap ++ (Cc ++ Cp)))) (⟨Nat.zero_le _, hM⟩) ⟨rfl, trivial⟩ (rfl) (rfl) (fun x hinv => ?_)
              obtain ⟨j, D⟩ := x
              obtain ⟨hj, hMj⟩ := hinv
              simp only at hj hMj
              obtain ⟨hwj, hsj1, hsj2, lj, hpj⟩ := runM_wf hcn j hw
              have hpl := hwj.plen
              dsimp only
              refine WC.seq ?_
              refine WC.region ?_
              refine WL.arith rfl rfl rfl rfl ?_
              refine WL.nil ?_
              refine WE.then_normal ?_
              refine WC.seq ?_
              refine WC.condT rfl (fun h5 => ?_) (fun h5 => ?_)
              · try simp at h5
                try (exfalso; first | omega | (simp at *; done))
                all_goals (
                  refine WC.skip ?_
                  refine WE.then_normal ?_
                  refine WC.seq ?_
                  refine WC.block ?_
                  refine WC.seq ?_
                  refine WC.seq ?_
                  refine WC.region ?_
                  obtain ⟨h2, Cw2, Cc2, Cp2, hM52, rfl⟩ := id hMj
                  refine WL.perm (fun _ hs => hs.part5) ?_
                  have hr : (mvOf h2 c.main (runM c j m)).regs.length = 16 := by rw [mvOf, ints_len]; exact hwj.regs
                  refine WL.move rfl rfl ?_
                  refine WL.nilCheck rfl rfl ?_
                  refine WL.fieldAddr rfl tF69_9_s rfl ?_
                  refine WL.fieldAddr rfl tF34_0_s rfl ?_
                  refine WL.load_own 0 rfl rfl tA30_s (mc27 hr) rfl ?_
                  refine WL.arith rfl rfl rfl rfl ?_
                  refine WL.nil ?_
                  refine WE.then_normal ?_
                  refine WC.condT rfl (fun h6 => ?_) (fun h6 => ?_)
                  · try simp at h6
                    try (exfalso; first | omega | (simp at *; done))
                    all_goals (
                      refine WC.exit ?_
                      refine WE.then_exit ?_
                      refine WE.block_other rfl ?_
                      refine WE.then_exit ?_
                      refine WE.then_exit ?_
                      refine WE.block_exit ?_
                      refine WE.then_normal ?_
                      refine WC.seq ?_
                      refine WC.region ?_
                      refine WL.move rfl rfl ?_
                      refine WL.pick [0, 4, 1, 2, 3, 5] rfl rfl ?_
                      refine WL.perm (fun _ hs => hs.join) ?_
                      refine WL.callS (dd := some 30) okF12_s rfl rfl (outcome_spec (mvOf h2 c.main (runM c j m)) bm Em h2.bh I hr rfl _ _ _ (runM c j m).printed h2.Ap h2.kp Cp2 rfl rfl rfl rfl rfl hM52.printed (by omega)) (fun v4 I4 C4 _ hv => ?_)
                      obtain ⟨hI4, A4, k4, Cn, rfl, hN, rfl⟩ := hv
                      have hI4 := hI4.symm
                      subst hI4
                      refine WL.perm (fun _ hs => hs.part3) ?_
                      refine WL.store 6 rfl rfl rfl rfl tS34_s rfl rfl rfl rfl rfl ?_
                      refine WL.assign rfl rfl ?_
                      refine WL.nil ?_
                      refine WE.then_normal ?_
                      refine WC.ret ?_
                      have hfin := runM_done (c := c) (m := m) hj (by first | exact .inr (by assumption) | exact .inl (by omega))
                      refine WE.pick [0, 1, 3, 4, 5, 2, 6] rfl rfl ?_
                      refine WE.perm (fun w hs => hs.join6) ?_
                      refine WE.retCr rfl (.cons (.agg 1 rfl rfl tA34_s tS34_s rfl) (.cons (.tmp rfl) .nil)) rfl ?_
                      rw [hfin]
                      exact ⟨rfl, A4, k4, Cn, _, rfl, hN, rfl, hMj⟩
                    )
                  · try simp at h6
                    try (exfalso; first | omega | (simp at *; done))
                    all_goals (
                      refine WC.skip ?_
                      refine WE.then_normal ?_
                      refine WC.region ?_
                      refine WL.move rfl rfl ?_
                      have hkj : (runM c j m).kind = 1 := by assumption
                      refine WL.perm (fun _ hs => hs.join5) ?_
                      refine WL.callS (dd := some 27) okF27_s rfl rfl (step_spec c (runM c j m) bm Em Eh _ I hMj hwj hkj (by omega)) (fun v1 I1 C1 _ hv => ?_)
                      obtain ⟨hI1, D2, C2, rfl, hM3⟩ := hv
                      have hI1 := hI1.symm
                      subst hI1
                      refine WL.perm (fun _ hs => hs.part) ?_
                      refine WL.pick [1, 2] rfl rfl ?_
                      refine WL.nil ?_
                      refine WE.block_normal ?_
                      refine WE.then_normal ?_
                      refine WC.region ?_
                      first | refine WL.add rfl rfl (by omega) rfl ?_ | refine WL.arith rfl rfl rfl rfl ?_
                      refine WL.move rfl rfl ?_
                      refine WL.nil ?_
                      refine WE.backG (j + 1, C2) (⟨by simp only; omega, by rw [runM_snoc c j m hkj]; exact hM3⟩) (by simp only; omega) ⟨rfl, trivial⟩ (by repeat (first | exact trivial | refine ⟨rfl, ?_⟩)) (rfl) (rfl)
                    )
                )
              · try simp at h5
                try (exfalso; first | omega | (simp at *; done))
                all_goals (
                  refine WC.exit ?_
                  refine WE.then_exit ?_
                  refine WE.then_exit ?_
                  refine WE.block_exit ?_
                  refine WE.then_normal ?_
                  refine WC.seq ?_
                  refine WC.region ?_
                  obtain ⟨h2, Cw2, Cc2, Cp2, hM52, rfl⟩ := id hMj
                  refine WL.perm (fun _ hs => hs.part5) ?_
                  have hr : (mvOf h2 c.main (runM c j m)).regs.length = 16 := by rw [mvOf, ints_len]; exact hwj.regs
                  refine WL.move rfl rfl ?_
                  refine WL.pick [0, 4, 1, 2, 3, 5] rfl rfl ?_
                  refine WL.perm (fun _ hs => hs.join) ?_
                  refine WL.callS (dd := some 30) okF12_s rfl rfl (outcome_spec (mvOf h2 c.main (runM c j m)) bm Em h2.bh I hr rfl _ _ _ (runM c j m).printed h2.Ap h2.kp Cp2 rfl rfl rfl rfl rfl hM52.printed (by omega)) (fun v4 I4 C4 _ hv => ?_)
                  obtain ⟨hI4, A4, k4, Cn, rfl, hN, rfl⟩ := hv
                  have hI4 := hI4.symm
                  subst hI4
                  refine WL.perm (fun _ hs => hs.part3) ?_
                  refine WL.store 6 rfl rfl rfl rfl tS34_s rfl rfl rfl rfl rfl ?_
                  refine WL.assign rfl rfl ?_
                  refine WL.nil ?_
                  refine WE.then_normal ?_
                  refine WC.ret ?_
                  have hfin := runM_done (c := c) (m := m) hj (by first | exact .inr (by assumption) | exact .inl (by omega))
                  refine WE.pick [0, 1, 3, 4, 5, 2, 6] rfl rfl ?_
                  refine WE.perm (fun w hs => hs.join6) ?_
                  refine WE.retCr rfl (.cons (.agg 1 rfl rfl tA34_s tS34_s rfl) (.cons (.tmp rfl) .nil)) rfl ?_
                  rw [hfin]
                  exact ⟨rfl, A4, k4, Cn, _, rfl, hN, rfl, hMj⟩
                )
            )
        )
    )
theorem wordS_spec (x : MV) (ws : List Int) (A : Option Addr) (kw : Nat) (Cw : Chunk) (bm Em bh : Nat) (a : Int) (I : Mem) (hr : x.regs.length = 16) (hhp : x.hp = .pointer (some ⟨bh, 0, none⟩)) (hwv : x.wv = .slice A ws.length kw) (hS : SlO 1 (ints ws) A kw Cw) : Spec Tryd.prog 19 [.pointer (some ⟨bm, 0, none⟩), .int .i64 a] I (mcObj bm Em x ++ Cw) (fun v I' C' => v = .tuple [.int .i64 (wordM ws a), .int .i64 0].toArray ∧ I' = I ∧ C' = mcObj bm Em x ++ Cw) := by
  refine Spec.intro Tryd.func19 rfl rfl fun Γ => ?_
  show WC _ _ _ _ [] [(0, _), (1, _)] _ _ _
  refine WC.regroup [mcObj bm Em x, Cw] (by simp) ?_
  refine WC.seq ?_
  refine WC.region ?_
  refine WL.assign rfl rfl ?_
  refine WL.assign rfl rfl ?_
  refine WL.nil ?_
  refine WE.then_normal ?_
  refine WC.seq ?_
  refine WC.seq ?_
  refine WC.region ?_
  refine WL.move rfl rfl ?_
  refine WL.callQ 0 okF26_s rfl rfl rfl (there_spec x bm Em bh I hr hhp) ?_
  refine WL.not rfl rfl ?_
  refine WL.nil ?_
  refine WE.then_normal ?_
  refine WC.condT rfl (fun h1 => ?_) (fun h1 => ?_)
  · try simp at h1
    try (exfalso; simp at *; done)
    all_goals (
      refine WC.seq ?_
      refine WC.region ?_
      refine WL.assign rfl rfl ?_
      refine WL.assign rfl rfl ?_
      refine WL.nil ?_
      refine WE.then_normal ?_
      refine WC.ret ?_
      refine WE.then_ret ?_
      first | (refine WE.perm (fun w hs => hs.join) ?_; refine WE.retCr rfl (.cons (.tmp rfl) (.cons (.tmp rfl) .nil)) rfl ?_; exact ⟨rfl, rfl, rfl⟩) | skip
    )
  · try simp at h1
    try (exfalso; simp at *; done)
    all_goals (
      refine WC.skip ?_
      refine WE.then_normal ?_
      refine WC.seq ?_
      refine WC.region ?_
      refine WL.move rfl rfl ?_
      refine WL.move rfl rfl ?_
      refine WL.perm (fun _ hs => hs.join) ?_
      refine WL.callQ 0 okF31_s rfl rfl rfl (word27_spec x ws A kw Cw bm Em a I hwv hS) ?_
      refine WL.perm (fun _ hs => hs.part) ?_
      refine WL.assign rfl rfl ?_
      refine WL.assign rfl rfl ?_
      refine WL.nil ?_
      refine WE.then_normal ?_
      refine WC.ret ?_
      first | (refine WE.perm (fun w hs => hs.join) ?_; refine WE.retCr rfl (.cons (.tmp rfl) (.cons (.tmp rfl) .nil)) rfl ?_; exact ⟨rfl, rfl, rfl⟩) | skip
    )
end Go.Proofs.YtddkkmdbolgnlaaDoor.Fw
