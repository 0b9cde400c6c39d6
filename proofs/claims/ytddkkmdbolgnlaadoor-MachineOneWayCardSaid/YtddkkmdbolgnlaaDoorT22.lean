/- A part of the proof: steps of the walk and laws that the claim's theorem rests on; each lemma states its own conditions. -/
import Derived.Test.YtddkkmdbolgnlaaDoorT21
import Derived.Test.YtddkkmdbolgnlaaDoorWalkG
import Derived.Test.YtddkkmdbolgnlaaDoorProg
set_option linter.unusedVariables false
set_option linter.unusedSimpArgs false
namespace Go.Proofs.YtddkkmdbolgnlaaDoor.Fw
open Go.Proofs
set_option maxRecDepth 100000
set_option linter.unusedVariables false
set_option linter.unusedSimpArgs false
theorem tZ26_u : zeroT Tryd.prog 26 = some (.agg [(.slice none 0 0), (.slice none 0 0), (.slice none 0 0), (.int .i64 0)].toArray) := by kernel_rfl
theorem tA26_u : aggT Tryd.prog 26 = some true := by kernel_rfl
theorem tS26_u : szT Tryd.prog 26 = some 4 := by kernel_rfl
theorem okF21_u : okFn Tryd.prog 21 Tryd.f21 := ⟨Tryd.func21, by kernel_rfl, rfl⟩
theorem tSt26_u : structT Tryd.prog 26 = some [(0, 1), (1, 1), (2, 1), (3, 1)] := by kernel_rfl
theorem tMixed_u : Tryd.prog.follows .mixedOrders = true := by kernel_rfl
theorem tF26_1_u : offT Tryd.prog 26 1 = some 1 := by kernel_rfl
theorem tA23_u : aggT Tryd.prog 23 = some false := by kernel_rfl
theorem tF26_2_u : offT Tryd.prog 26 2 = some 2 := by kernel_rfl
theorem tA24_u : aggT Tryd.prog 24 = some false := by kernel_rfl
theorem tF26_3_u : offT Tryd.prog 26 3 = some 3 := by kernel_rfl
theorem tA3_u : aggT Tryd.prog 3 = some false := by kernel_rfl
theorem okF33_u : okFn Tryd.prog 33 Tryd.f33 := ⟨Tryd.func33, by kernel_rfl, rfl⟩
theorem okF34_u : okFn Tryd.prog 34 Tryd.f34 := ⟨Tryd.func34, by kernel_rfl, rfl⟩
theorem tF26_0_u : offT Tryd.prog 26 0 = some 0 := by kernel_rfl
theorem tA22_u : aggT Tryd.prog 22 = some false := by kernel_rfl
theorem tE22_u : sliceT Tryd.prog 22 = some 52 := by kernel_rfl
theorem tS52_u : szT Tryd.prog 52 = some 2 := by kernel_rfl
theorem tA52_u : aggT Tryd.prog 52 = some true := by kernel_rfl
theorem tZ52_u : zeroT Tryd.prog 52 = some (.agg [(.int .i64 0), (.slice none 0 0)].toArray) := by kernel_rfl
theorem tF52_1_u : offT Tryd.prog 52 1 = some 1 := by kernel_rfl
theorem tA50_u : aggT Tryd.prog 50 = some false := by kernel_rfl
theorem okF35_u : okFn Tryd.prog 35 Tryd.f35 := ⟨Tryd.func35, by kernel_rfl, rfl⟩
theorem tS50_u : szT Tryd.prog 50 = some 1 := by kernel_rfl
theorem tB52_u : bytesT Tryd.prog 52 = some 32 := by kernel_rfl
theorem tS22_u : szT Tryd.prog 22 = some 1 := by kernel_rfl
theorem own_spec (c : CodeD) (I : Mem) (v1 v2 v3 : Value) (hc : CodeC I c v1 v2 v3) (hsp : SpTab 0 I) (hmay : mayC c = true) : SpecR Tryd.prog 22 [.agg [v1, v2, v3, .int .i64 c.main].toArray] I (fun v I' => I.le I' ∧ ∃ w1 w2 w3, v = .tuple [.agg [w1, w2, w3, .int .i64 c.main].toArray, .int .i64 0].toArray ∧ CodeC I' c w1 w2 w3) := by
  obtain ⟨hs1, hs2, hs3, hmain⟩ := id hc
  obtain ⟨A1, k1, rfl, hm1, hc1, hS1⟩ := hs1
  obtain ⟨A2, k2, rfl, hm2, hc2, hS2⟩ := hs2
  obtain ⟨A3, k3, rfl, hm3, hc3, hS3⟩ := hs3
  have hmw := MayW.of hmay
  have hfn := hmw.wf.n32
  have hll := hmw.wf.l2
  obtain ⟨vf, hvf, hsf, hnf⟩ := hS2.rows
  obtain ⟨vi, hvi, hsi, hni⟩ := hS3.rows
  have hvfl := hvf.flen
  have hvil := hvi.flen
  have hshl : c.shapes.length ≤ 4096 := by have := hmw.shapes; simp only [mayShapes, Bool.and_eq_true, decide_eq_true_eq] at this; exact this.1
  refine SpecR.intro Tryd.func22 rfl rfl fun w0 => ?_
  show WC _ _ _ _ [] [(0, _)] _ _ _
  refine WC.seq ?_
  refine WC.region ?_
  refine WL.box rfl rfl rfl (fun b1 => ?_)
  refine WL.alloc tZ26_u rfl rfl (fun b2 => ?_)
  refine WL.assign rfl rfl ?_
  refine WL.nil ?_
  refine WE.then_normal ?_
  refine WC.seq ?_
  refine WC.seq ?_
  refine WC.region ?_
  refine WL.load_own_agg 1 rfl rfl tA26_u tS26_u rfl rfl ?_
  refine WL.callV okF21_u rfl rfl (mayC_spec c I _ _ _ hc hsp) ?_
  rw [hmay]
  refine WL.not rfl rfl ?_
  refine WL.nil ?_
  refine WE.then_normal ?_
  refine WC.condT rfl (fun h3 => ?_) (fun h3 => ?_)
  · try simp at h3
    try (exfalso; simp_all; done)
    all_goals (
      refine WC.seq ?_
      refine WC.region ?_
      refine WL.build_struct rfl tZ26_u tSt26_u rfl rfl rfl ?_
      refine WL.store 0 rfl rfl rfl rfl tS26_u rfl rfl rfl rfl rfl ?_
      refine WL.assign rfl rfl ?_
      refine WL.nil ?_
      refine WE.then_normal ?_
      refine WC.ret ?_
      refine WE.then_ret ?_
      skip
    )
  · try simp at h3
    try (exfalso; simp_all; done)
    all_goals (
      refine WC.skip ?_
      refine WE.then_normal ?_
      refine WC.seq ?_
      refine WC.cutAt (X := (Option Addr × Nat × Chunk) × (Option Addr × Nat × Chunk) × Nat) (fun z => ([(4, .pointer (some ⟨z.2.2, 0, none⟩)), (1, .pointer (some ⟨b1, 0, none⟩)), (2, .pointer (some ⟨b2, 0, none⟩)), (3, .int .i64 0)], I, [[(z.2.2, .cells [.slice none 0 0, .slice z.1.1 c.fns.length z.1.2.1, .slice z.2.1.1 c.list.length z.2.1.2.1, .int .i64 c.main].toArray 26 (0, 0))], z.1.2.2, z.2.1.2.2, [(b2, .cells [.slice none 0 0, .slice none 0 0, .slice none 0 0, .int .i64 0].toArray 26 (0, 0))], [(b1, .cells [.slice A1 c.shapes.length k1, .slice A2 c.fns.length k2, .slice A3 c.list.length k3, .int .i64 c.main].toArray 26 (0, 0))]])) (fun z => SlO 3 vf.flatten z.1.1 z.1.2.1 z.1.2.2 ∧ SlO 5 vi.flatten z.2.1.1 z.2.1.2.1 z.2.1.2.2) ?_ (fun z hz => ?_)
      · refine WC.region_staged2 [0, 1] tMixed_u rfl rfl (fun hI0 => ?_)
        refine WS2.float (k := 0) rfl (by kernel_rfl) (by kernel_rfl) rfl calm_no ?_
        refine WL.fieldAddr rfl tF26_1_u rfl ?_
        refine WL.nil ?_
        refine WS2.onward ?_
        refine WS2.float (k := 1) rfl (by kernel_rfl) (by kernel_rfl) rfl calm_no ?_
        refine WL.load_own 1 rfl rfl tA23_u rfl rfl ?_
        refine WL.nil ?_
        refine WS2.onward ?_
        refine WS2.float (k := 3) rfl (by kernel_rfl) (by kernel_rfl) rfl calm_no ?_
        refine WL.fieldAddr rfl tF26_2_u rfl ?_
        refine WL.nil ?_
        refine WS2.onward ?_
        refine WS2.float (k := 4) rfl (by kernel_rfl) (by kernel_rfl) rfl calm_no ?_
        refine WL.load_own 1 rfl rfl tA24_u rfl rfl ?_
        refine WL.nil ?_
        refine WS2.onward ?_
        refine WS2.float (k := 6) rfl (by kernel_rfl) (by kernel_rfl) rfl calm_no ?_
        refine WL.fieldAddr rfl tF26_3_u rfl ?_
        refine WL.nil ?_
        refine WS2.onward ?_
        refine WS2.float (k := 7) rfl (by kernel_rfl) (by kernel_rfl) rfl calm_no ?_
        refine WL.load_own 1 rfl rfl tA3_u rfl rfl ?_
        refine WL.nil ?_
        refine WS2.onward ?_
        refine WS2.touch2 (k := 2) (j := 9) rfl rfl (by kernel_rfl) rfl rfl ?_ ?_
        · refine WL.perm (fun _ hs => hs.nilTop) ?_
          refine WL.call1 okF33_u rfl rfl (clone_fn I [] A2 c.fns.length k2 vf.flatten hsf hvfl (hvf.one FnR_one) (fun e => by rw [hnf e]; rfl) (by omega) (by omega)) (fun vf If Cf _ hv => ?_)
          obtain ⟨hIf, Af', kf', Cf', rfl, hCf, rfl⟩ := hv
          have hIf := hIf.symm
          subst hIf
          refine WL.perm (fun _ hs => hs.part) ?_
          refine WL.pick [0, 2, 3] rfl rfl ?_
          refine WL.nil ?_
          refine WS2.next (pickW (ks := [1, 2]) rfl rfl (Mem.le_refl _) hI0) ?_
          refine WS2.touch2 (k := 5) (j := 9) rfl rfl (by kernel_rfl) rfl rfl ?_ ?_
          · refine WL.perm (fun _ hs => hs.nilTop) ?_
            refine WL.call1 okF34_u rfl rfl (clone_instr I [] A3 c.list.length k3 vi.flatten hsi hvil (hvi.one InstrR_one) (fun e => by rw [hni e]; rfl) (by omega) (by omega)) (fun vi Ii Ci _ hv => ?_)
            obtain ⟨hIi, Ai', ki', Ci', rfl, hCi, rfl⟩ := hv
            have hIi := hIi.symm
            subst hIi
            refine WL.perm (fun _ hs => hs.part) ?_
            refine WL.pick [0, 2, 3, 4] rfl rfl ?_
            refine WL.nil ?_
            refine WS2.next (pickW (ks := [2, 3]) rfl rfl (Mem.le_refl _) hI0) ?_
            refine WS2.float (k := 8) rfl (by kernel_rfl) (by kernel_rfl) rfl calm_no ?_
            refine WL.build_struct rfl tZ26_u tSt26_u rfl rfl rfl ?_
            refine WL.nil ?_
            refine WS2.onward ?_
            refine WS2.touch (k := 9) rfl (by kernel_rfl) rfl ?_
            refine WL.alloc tZ26_u rfl rfl (fun b4 => ?_)
            refine WL.nil ?_
            refine WS2.next (pickW (ks := [3, 4]) rfl rfl (Mem.le_refl _) hI0) ?_
            refine WS2.touch (k := 10) rfl (by kernel_rfl) rfl ?_
            refine WL.store 0 rfl rfl rfl rfl tS26_u rfl rfl rfl rfl rfl ?_
            refine WL.nil ?_
            refine WS2.next (pickW (ks := [3, 4]) rfl rfl (Mem.le_refl _) hI0) ?_
            refine WS2.doneC (by kernel_rfl) ?_
            refine WE.pick [0, 2, 1, 3, 4] rfl rfl ?_
            exact WE.mid ((Af', kf', Cf'), (Ai', ki', Ci'), b4) ⟨hCf, hCi⟩ (by repeat (first | exact trivial | refine ⟨rfl, ?_⟩)) rfl rfl
          · refine WL.alloc tZ26_u rfl rfl (fun b5 => ?_)
            refine WL.nil ?_
            refine WS2.next (pickW (ks := [2, 3]) rfl rfl (Mem.le_refl _) hI0) ?_
            refine WS2.touch (k := 5) rfl (by kernel_rfl) rfl ?_
            refine WL.perm (fun _ hs => hs.nilTop) ?_
            refine WL.call1 okF34_u rfl rfl (clone_instr I [] A3 c.list.length k3 vi.flatten hsi hvil (hvi.one InstrR_one) (fun e => by rw [hni e]; rfl) (by omega) (by omega)) (fun vi Ii Ci _ hv => ?_)
            obtain ⟨hIi, Ai', ki', Ci', rfl, hCi, rfl⟩ := hv
            have hIi := hIi.symm
            subst hIi
            refine WL.perm (fun _ hs => hs.part) ?_
            refine WL.pick [0, 2, 3, 4, 5] rfl rfl ?_
            refine WL.nil ?_
            refine WS2.next (pickW (ks := [3, 4]) rfl rfl (Mem.le_refl _) hI0) ?_
            refine WS2.float (k := 8) rfl (by kernel_rfl) (by kernel_rfl) rfl calm_no ?_
            refine WL.build_struct rfl tZ26_u tSt26_u rfl rfl rfl ?_
            refine WL.nil ?_
            refine WS2.onward ?_
            refine WS2.touch (k := 10) rfl (by kernel_rfl) rfl ?_
            refine WL.store 1 rfl rfl rfl rfl tS26_u rfl rfl rfl rfl rfl ?_
            refine WL.nil ?_
            refine WS2.next (pickW (ks := [3, 4]) rfl rfl (Mem.le_refl _) hI0) ?_
            refine WS2.doneC (by kernel_rfl) ?_
            refine WE.pick [1, 2, 0, 3, 4] rfl rfl ?_
            exact WE.mid ((Af', kf', Cf'), (Ai', ki', Ci'), b5) ⟨hCf, hCi⟩ (by repeat (first | exact trivial | refine ⟨rfl, ?_⟩)) rfl rfl
        · refine WL.alloc tZ26_u rfl rfl (fun b6 => ?_)
          refine WL.nil ?_
          refine WS2.next (pickW (ks := [1, 2]) rfl rfl (Mem.le_refl _) hI0) ?_
          refine WS2.touch (k := 2) rfl (by kernel_rfl) rfl ?_
          refine WL.perm (fun _ hs => hs.nilTop) ?_
          refine WL.call1 okF33_u rfl rfl (clone_fn I [] A2 c.fns.length k2 vf.flatten hsf hvfl (hvf.one FnR_one) (fun e => by rw [hnf e]; rfl) (by omega) (by omega)) (fun vf If Cf _ hv => ?_)
          obtain ⟨hIf, Af', kf', Cf', rfl, hCf, rfl⟩ := hv
          have hIf := hIf.symm
          subst hIf
          refine WL.perm (fun _ hs => hs.part) ?_
          refine WL.pick [0, 2, 3, 4] rfl rfl ?_
          refine WL.nil ?_
          refine WS2.next (pickW (ks := [2, 3]) rfl rfl (Mem.le_refl _) hI0) ?_
          refine WS2.touch (k := 5) rfl (by kernel_rfl) rfl ?_
          refine WL.perm (fun _ hs => hs.nilTop) ?_
          refine WL.call1 okF34_u rfl rfl (clone_instr I [] A3 c.list.length k3 vi.flatten hsi hvil (hvi.one InstrR_one) (fun e => by rw [hni e]; rfl) (by omega) (by omega)) (fun vi Ii Ci _ hv => ?_)
          obtain ⟨hIi, Ai', ki', Ci', rfl, hCi, rfl⟩ := hv
          have hIi := hIi.symm
          subst hIi
          refine WL.perm (fun _ hs => hs.part) ?_
          refine WL.pick [0, 2, 3, 4, 5] rfl rfl ?_
          refine WL.nil ?_
          refine WS2.next (pickW (ks := [3, 4]) rfl rfl (Mem.le_refl _) hI0) ?_
          refine WS2.float (k := 8) rfl (by kernel_rfl) (by kernel_rfl) rfl calm_no ?_
          refine WL.build_struct rfl tZ26_u tSt26_u rfl rfl rfl ?_
          refine WL.nil ?_
          refine WS2.onward ?_
          refine WS2.touch (k := 10) rfl (by kernel_rfl) rfl ?_
          refine WL.store 2 rfl rfl rfl rfl tS26_u rfl rfl rfl rfl rfl ?_
          refine WL.nil ?_
          refine WS2.next (pickW (ks := [3, 4]) rfl rfl (Mem.le_refl _) hI0) ?_
          refine WS2.doneC (by kernel_rfl) ?_
          refine WE.pick [2, 1, 0, 3, 4] rfl rfl ?_
          exact WE.mid ((Af', kf', Cf'), (Ai', ki', Ci'), b6) ⟨hCf, hCi⟩ (by repeat (first | exact trivial | refine ⟨rfl, ?_⟩)) rfl rfl
      obtain ⟨⟨Af', kf', Cf'⟩, ⟨Ai', ki', Ci'⟩, b4⟩ := z
      obtain ⟨hCf, hCi⟩ := hz
      dsimp only at hCf hCi ⊢
      refine WC.seq ?_
      refine WC.seq ?_
      refine WC.region ?_
      refine WL.fieldAddr rfl tF26_0_u rfl ?_
      refine WL.load_own 4 rfl rfl tA22_u rfl rfl ?_
      refine WL.len_slice rfl tE22_u rfl ?_
      refine WL.move rfl rfl ?_
      refine WL.nil ?_
      refine WE.then_normal ?_
      refine WC.block ?_
      refine WC.perm (fun _ hs => hs.nilTop) ?_
      refine WC.pick [1, 0, 2, 3, 4, 5] rfl rfl ?_
      refine WC.loopG (X := Nat × Mem × Option Addr × Nat × Chunk × List (List Value)) [2, 3, 4, 21, 22, 38] rfl (fun x => [(23, .int .i64 (x.1 : Int))]) (fun x => x.2.1) (fun x => [[(b4, .cells [.slice x.2.2.1 x.1 x.2.2.2.1, .slice Af' c.fns.length kf', .slice Ai' c.list.length ki', .int .i64 c.main].toArray 26 (0, 0))], x.2.2.2.2.1, Cf', Ci', [(b2, .cells [.slice none 0 0, .slice none 0 0, .slice none 0 0, .int .i64 0].toArray 26 (0, 0))], [(b1, .cells [.slice A1 c.shapes.length k1, .slice A2 c.fns.length k2, .slice A3 c.list.length k3, .int .i64 c.main].toArray 26 (0, 0))]]) (fun x => x.1 ≤ c.shapes.length ∧ I.le x.2.1 ∧ SlO 2 x.2.2.2.2.2.flatten x.2.2.1 x.2.2.2.1 x.2.2.2.2.1 ∧ Fw.Rows ShapeR 2 x.2.1 (c.shapes.take x.1) x.2.2.2.2.2) (fun x => c.shapes.length - x.1) (0, I, none, 0, [], []) (⟨Nat.zero_le _, Mem.le_refl _, SlO.nil 2, Rows.nil⟩) ⟨rfl, trivial⟩ (rfl) (rfl) (fun x hinv => ?_)
      obtain ⟨j, Ij, As, ks, Cs, vs⟩ := x
      obtain ⟨hj, hIj, hCs, hvs⟩ := hinv
      simp only at hj hIj hCs hvs
      dsimp only
      refine WC.seq ?_
      refine WC.region ?_
      refine WL.arith rfl rfl rfl rfl ?_
      refine WL.nil ?_
      refine WE.then_normal ?_
      refine WC.seq ?_
      refine WC.condT rfl (fun h7 => ?_) (fun h7 => ?_)
      · try simp at h7
        try (exfalso; simp_all; done)
        all_goals (
          refine WC.skip ?_
          refine WE.then_normal ?_
          refine WC.seq ?_
          refine WC.block ?_
          refine WC.seq ?_
          refine WC.region ?_
          obtain ⟨sh, hsh⟩ : ∃ y, c.shapes[j]? = some y := ⟨_, List.getElem?_eq_getElem (by omega)⟩
          obtain ⟨bsh, osh, us, rfl, hus, hrows, hshr⟩ := hS1 _ sh hsh
          have hrows := Mem.le.row hIj hrows
          obtain ⟨Ab, kb, rfl, hbl, hbk, hSb, hsw⟩ := hshr
          obtain ⟨vb, hvb, hsb, hnb⟩ := hSb.rows
          have hvbl := hvb.flen
          have hsb' : SrcO Ij [] Ab vb.flatten := hsb.mono hIj
          have hb16 := boxes16 hmw.shapes (List.mem_of_getElem? hsh)
          refine WL.indexAddr rfl rfl tE22_u tS52_u rfl (by first | omega) ?_
          refine WL.load_imm_agg rfl tA52_u tS52_u rfl (by first | exact hrows) (by first | rfl | assumption) ?_
          refine WL.alloc tZ52_u rfl rfl (fun b8 => ?_)
          refine WL.store 0 rfl rfl rfl rfl tS52_u rfl rfl rfl rfl rfl ?_
          refine WL.nil ?_
          refine WE.then_normal ?_
          refine WC.seq ?_
          refine WC.region ?_
          refine WL.fieldAddr rfl tF52_1_u rfl ?_
          refine WL.load_own 0 rfl rfl tA50_u rfl rfl ?_
          refine WL.perm (fun _ hs => hs.nilTop) ?_
          refine WL.call1 okF35_u rfl rfl (clone_box Ij [] Ab sh.boxes.length kb vb.flatten hsb' hvbl (hvb.one BoxR_one) (fun e => by rw [hnb e]; rfl) (by omega) (by omega)) (fun v5 I5 C5 _ hv => ?_)
          obtain ⟨hI5, Ab', kb', Cb', rfl, hCb, rfl⟩ := hv
          have hI5 := hI5.symm
          subst hI5
          refine WL.perm (fun _ hs => hs.part) ?_
          refine WL.pick [0, 2, 3, 4, 5, 6, 7, 8] rfl rfl ?_
          refine WL.freezeS hCb (fun In hIn hAb => ?_)
          refine WL.fieldAddr rfl tF52_1_u rfl ?_
          refine WL.store 0 rfl rfl rfl rfl tS50_u rfl rfl rfl rfl rfl ?_
          refine WL.nil ?_
          refine WE.then_normal ?_
          refine WC.region ?_
          refine WL.fieldAddr rfl tF26_0_u rfl ?_
          refine WL.load_own 1 rfl rfl tA22_u rfl rfl ?_
          refine WL.load_own_agg 0 rfl rfl tA52_u tS52_u rfl rfl ?_
          refine WL.buildSlice_lit rfl tE22_u tS52_u tZ52_u rfl rfl rfl rfl rfl rfl rfl (fun b9 => ?_)
          have hflen := hvs.flen
          rw [List.length_take, Nat.min_eq_left (by omega)] at hflen
          refine WL.append_own 3 rfl rfl tE22_u tS52_u tB52_u tZ52_u rfl rfl rfl (fun C' => rfl) hCs hflen (.slice tE22_u (AtW.lit (k := 0) rfl) rfl rfl) (by omega) (by omega) rfl (fun As' ks' Cs' hCs' => ?_)
          refine WL.fieldAddr rfl tF26_0_u rfl ?_
          refine WL.store 2 rfl rfl rfl rfl tS22_u rfl rfl rfl rfl rfl ?_
          refine WL.nil ?_
          refine WE.block_normal ?_
          refine WE.then_normal ?_
          refine WC.region ?_
          first | refine WL.add rfl rfl (by omega) rfl ?_ | refine WL.arith rfl rfl rfl rfl ?_
          refine WL.move rfl rfl ?_
          refine WL.nil ?_
          refine WE.pick [2, 3, 4, 5, 6, 7] rfl rfl ?_
          refine WE.backG (j + 1, In, As', ks', Cs', vs ++ [[.int .i64 sh.words, .slice Ab' sh.boxes.length kb']]) (⟨by simp only; omega, Mem.le_trans hIj hIn, by rw [List.flatten_append]; exact hCs', by rw [take_snoc hsh]; exact (hvs.mono ShapeR_mono hIn).snoc rfl ⟨Ab', kb', rfl, hbl, hCb.len_le' (by omega) hvbl, (hvb.mono BoxR_mono (Mem.le_trans hIj hIn)).slAtA (by omega) hAb, hsw⟩⟩) (by simp only; omega) ⟨rfl, trivial⟩ (by repeat (first | exact trivial | refine ⟨rfl, ?_⟩)) (rfl) (rfl)
        )
      · try simp at h7
        try (exfalso; simp_all; done)
        all_goals (
          refine WC.exit ?_
          refine WE.then_exit ?_
          refine WE.then_exit ?_
          refine WE.block_exit ?_
          refine WE.then_normal ?_
          refine WC.seq ?_
          refine WC.region ?_
          refine WL.load_own_agg 0 rfl rfl tA26_u tS26_u rfl rfl ?_
          refine WL.store 4 rfl rfl rfl rfl tS26_u rfl rfl rfl rfl rfl ?_
          refine WL.assign rfl rfl ?_
          refine WL.nil ?_
          refine WE.then_normal ?_
          refine WC.ret ?_
          have hje : c.shapes.length = j := by omega
          rw [← hje, List.take_length] at hvs
          subst hje
          have hflen := hvs.flen
          refine WE.pick [1, 2, 3, 0, 4, 5] rfl rfl ?_
          refine WE.freezeS hCs (fun Ia hIa hAs => ?_)
          refine WE.freezeS hCf (fun Ib hIb hAf => ?_)
          refine WE.freezeS hCi (fun Ic hIc hAi => ?_)
          refine WE.retRr rfl (.cons (.agg 1 rfl rfl tA26_u tS26_u rfl) (.cons (.tmp rfl) .nil)) rfl ?_
          have hle1 := Mem.le_trans hIb hIc
          have hle2 := Mem.le_trans hIa hle1
          have hle3 := Mem.le_trans hIj hle2
          exact ⟨hle3, _, _, _, rfl, ⟨⟨_, _, rfl, hm1, hCs.len_le' (by omega) hflen, (hvs.mono ShapeR_mono hle2).slAtA (by omega) (hAs.mono hle1)⟩, ⟨_, _, rfl, hm2, hCf.len_le' (by omega) hvfl, (hvf.mono FnR_mono hle3).slAtA (by omega) (hAf.mono hIc)⟩, ⟨_, _, rfl, hm3, hCi.len_le' (by omega) hvil, (hvi.mono InstrR_mono hle3).slAtA (by omega) hAi⟩, hmain⟩⟩
        )
    )
end Go.Proofs.YtddkkmdbolgnlaaDoor.Fw
