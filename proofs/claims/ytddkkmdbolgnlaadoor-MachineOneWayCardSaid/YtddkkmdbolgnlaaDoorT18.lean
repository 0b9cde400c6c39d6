/- A part of the proof: steps of the walk and laws that the claim's theorem rests on; each lemma states its own conditions. -/
import Derived.Test.YtddkkmdbolgnlaaDoorT17
import Derived.Test.YtddkkmdbolgnlaaDoorWalkF
import Derived.Test.YtddkkmdbolgnlaaDoorProg
set_option linter.unusedVariables false
set_option linter.unusedSimpArgs false
namespace Go.Proofs.YtddkkmdbolgnlaaDoor.Fw
open Go.Proofs
set_option maxRecDepth 100000
set_option linter.unusedVariables false
set_option linter.unusedSimpArgs false
theorem tF69_0_p : offT Tryd.prog 69 0 = some 0 := by kernel_rfl
theorem tF26_0_p : offT Tryd.prog 26 0 = some 0 := by kernel_rfl
theorem tA22_p : aggT Tryd.prog 22 = some false := by kernel_rfl
theorem tE22_p : sliceT Tryd.prog 22 = some 52 := by kernel_rfl
theorem tS52_p : szT Tryd.prog 52 = some 2 := by kernel_rfl
theorem tF52_1_p : offT Tryd.prog 52 1 = some 1 := by kernel_rfl
theorem tA50_p : aggT Tryd.prog 50 = some false := by kernel_rfl
theorem tE50_p : sliceT Tryd.prog 50 = some 83 := by kernel_rfl
theorem tS83_p : szT Tryd.prog 83 = some 3 := by kernel_rfl
theorem tA83_p : aggT Tryd.prog 83 = some true := by kernel_rfl
theorem tZ83_p : zeroT Tryd.prog 83 = some (.agg [(.int .i64 0), (.int .i64 0), (.int .i64 0)].toArray) := by kernel_rfl
theorem tF83_0_p : offT Tryd.prog 83 0 = some 0 := by kernel_rfl
theorem tA3_p : aggT Tryd.prog 3 = some false := by kernel_rfl
theorem okF31_p : okFn Tryd.prog 31 Tryd.f31 := ⟨Tryd.func31, by kernel_rfl, rfl⟩
theorem okF59_p : okFn Tryd.prog 59 Tryd.f59 := ⟨Tryd.func59, by kernel_rfl, rfl⟩
theorem tF83_2_p : offT Tryd.prog 83 2 = some 2 := by kernel_rfl
theorem okF68_p : okFn Tryd.prog 68 Tryd.f68 := ⟨Tryd.func68, by kernel_rfl, rfl⟩
theorem tF69_1_p : offT Tryd.prog 69 1 = some 4 := by kernel_rfl
theorem tA61_p : aggT Tryd.prog 61 = some false := by kernel_rfl
theorem okF84_p : okFn Tryd.prog 84 Tryd.f84 := ⟨Tryd.func84, by kernel_rfl, rfl⟩
theorem drop_spec (c : CodeD) (hms : mayShapes c.shapes = true) (n : Nat) : ∀ (x : MV) (ws : List Int) (h : List ArD) (A : Option Addr) (kw : Nat) (Cw : Chunk) (bm Em bh Eh : Nat) (a s : Int) (I : Mem) (r : List Int × List ArD), 0 ≤ s → s < c.shapes.length → dropF c n ws h a s = some r → WFw ws h → x.regs.length = 16 → x.hp = .pointer (some ⟨bh, 0, none⟩) → SlV ShapeR 2 I c.shapes x.v1 → SlO 1 (ints ws) A kw Cw → Spec Tryd.prog 68 [.pointer (some ⟨bm, 0, none⟩), .int .i64 a, .int .i64 s] I (mcObj bm Em { x with wv := .slice A ws.length kw } ++ (Cw ++ hpObj bh Eh h)) (fun _ I' C' => I' = I ∧ ∃ A' k' Cw', C' = mcObj bm Em { x with wv := .slice A' r.1.length k' } ++ (Cw' ++ hpObj bh Eh r.2) ∧ SlO 1 (ints r.1) A' k' Cw') := by
  induction n
  case zero => intro x ws h A kw Cw bm Em bh Eh a s I r hs0 hs1 hd; cases hd
  rename_i n ih
  intro x ws h A kw Cw bm Em bh Eh a s I r hs0 hs1 hd hww hr hhp hv1 hS
  obtain ⟨sh, hsh⟩ : ∃ y, c.shapes[s.toNat]? = some y := ⟨_, List.getElem?_eq_getElem (by omega)⟩
  rw [dropF, boxesOf_at hsh] at hd
  have hbs := boxShp hms (List.mem_of_getElem? hsh)
  obtain ⟨A1, q1, hx1, hm1, hc1, hS1⟩ := id hv1
  obtain ⟨bsh, osh, us, rfl, hus, hrow, hshr⟩ := hS1 _ sh hsh
  obtain ⟨Ab, kb, rfl, hbl, hbk, hSb, hsw⟩ := hshr
  refine Spec.intro Tryd.func68 rfl rfl fun Γ => ?_
  show WC _ _ _ _ [] [(0, _), (1, _), (2, _)] _ _ _
  refine WC.regroup [mcObj bm Em { x with wv := .slice A ws.length kw }, Cw, hpObj bh Eh h] (by simp) ?_
  refine WC.seq ?_
  refine WC.region ?_
  refine WL.move rfl rfl ?_
  refine WL.nilCheck rfl rfl ?_
  refine WL.fieldAddr rfl tF69_0_p rfl ?_
  refine WL.fieldAddr rfl tF26_0_p rfl ?_
  refine WL.load_own 0 rfl rfl tA22_p mc0 rfl ?_
  refine WL.move rfl rfl ?_
  refine WL.reslot 13 rfl hx1 ?_
  refine WL.indexAddr rfl rfl tE22_p tS52_p rfl (by first | omega) ?_
  refine WL.fieldAddr rfl tF52_1_p rfl ?_
  refine WL.load_imm rfl tA50_p rfl (by first | exact hrow 1 _ rfl) ?_
  refine WL.len_slice rfl tE50_p rfl ?_
  refine WL.move rfl rfl ?_
  refine WL.nil ?_
  refine WE.then_normal ?_
  refine WC.block ?_
  refine WC.loopG (X := Nat × List Int × List ArD × Option Addr × Nat × Chunk) [0, 1, 17, 18] rfl (fun x0 => [(19, .int .i64 (x0.1 : Int))]) (fun x0 => I) (fun x0 => [mcObj bm Em { x with wv := .slice x0.2.2.2.1 x0.2.1.length x0.2.2.2.2.1 }, x0.2.2.2.2.2, hpObj bh Eh x0.2.2.1]) (fun x0 => x0.1 ≤ sh.boxes.length ∧ dropBs (dropF c n) (sh.boxes.drop x0.1) x0.2.1 x0.2.2.1 a = some r ∧ WFw x0.2.1 x0.2.2.1 ∧ SlO 1 (ints x0.2.1) x0.2.2.2.1 x0.2.2.2.2.1 x0.2.2.2.2.2) (fun x0 => sh.boxes.length - x0.1) (0, ws, h, A, kw, Cw) (⟨Nat.zero_le _, hd, hww, hS⟩) ⟨rfl, trivial⟩ (rfl) (rfl) (fun x0 hinv => ?_)
  clear hww hS hd
  obtain ⟨k, ws, hp, A, kx, Cx⟩ := x0
  obtain ⟨hk, hd, hww, hS⟩ := hinv
  simp only at hk hd hww hS
  dsimp only
  refine WC.seq ?_
  refine WC.region ?_
  refine WL.arith rfl rfl rfl rfl ?_
  refine WL.nil ?_
  refine WE.then_normal ?_
  refine WC.seq ?_
  refine WC.condT rfl (fun h1 => ?_) (fun h1 => ?_)
  · try simp at h1
    all_goals (
      refine WC.skip ?_
      refine WE.then_normal ?_
      refine WC.seq ?_
      refine WC.block ?_
      refine WC.seq ?_
      refine WC.region ?_
      obtain ⟨b0, hb0⟩ : ∃ y, sh.boxes[k]? = some y := ⟨_, List.getElem?_eq_getElem (by omega)⟩
      have hb1 := hbs b0 (List.mem_of_getElem? hb0)
      have hdr := hd
      rw [drop_at hb0] at hdr
      obtain ⟨bb, ob, ub, rfl, hub, hrowb, rfl, hbr1, hbr2, hbr3⟩ := hSb k b0 hb0
      have hw1 : WFw (setM ws (w64 (a + b0.at_)) 0) hp := ⟨setM_rg hww.rg rg0, setM_le hww.len, hww.heap⟩
      refine WL.indexAddr rfl rfl tE50_p tS83_p rfl (by first | omega) ?_
      refine WL.load_imm_agg rfl tA83_p tS83_p rfl (by first | exact hrowb) (by first | rfl | assumption) ?_
      refine WL.alloc tZ83_p rfl rfl (fun b2 => ?_)
      refine WL.store 0 rfl rfl rfl rfl tS83_p rfl rfl rfl rfl rfl ?_
      refine WL.nil ?_
      refine WE.then_normal ?_
      refine WC.seq ?_
      refine WC.region ?_
      refine WL.move rfl rfl ?_
      refine WL.move rfl rfl ?_
      refine WL.fieldAddr rfl tF83_0_p rfl ?_
      refine WL.load_own 0 rfl rfl tA3_p rfl rfl ?_
      first | refine WL.add rfl rfl (by omega) rfl ?_ | refine WL.arith rfl rfl rfl rfl ?_
      refine WL.pick [1, 2, 0, 3] rfl rfl ?_
      refine WL.perm (fun _ hs => hs.join) ?_
      refine WL.callQ 0 okF31_p rfl rfl rfl (word27_spec { x with wv := .slice A ws.length kx } ws A kx Cx bm Em (w64 (a + b0.at_)) I rfl hS) ?_
      refine WL.perm (fun _ hs => hs.part) ?_
      refine WL.assign rfl rfl ?_
      refine WL.nil ?_
      refine WE.then_normal ?_
      refine WC.seq ?_
      refine WC.region ?_
      refine WL.move rfl rfl ?_
      refine WL.move rfl rfl ?_
      refine WL.fieldAddr rfl tF83_0_p rfl ?_
      refine WL.load_own 2 rfl rfl tA3_p rfl rfl ?_
      first | refine WL.add rfl rfl (by omega) rfl ?_ | refine WL.arith rfl rfl rfl rfl ?_
      refine WL.perm (fun _ hs => hs.join) ?_
      refine WL.callS (dd := some 34) okF59_p rfl rfl (set27_spec ({ x with wv := .slice A ws.length kx }) (ws) (A) (kx) (Cx) bm Em ((w64 (a + b0.at_))) (0) _ hr rfl hS hww.len) (fun v1 I1 C1 _ hv => ?_)
      obtain ⟨hI1, A1', k1', Cw1', rfl, hS1⟩ := hv
      have hI1 := hI1.symm
      subst hI1
      refine WL.perm (fun _ hs => hs.part) ?_
      refine WL.nil ?_
      refine WE.then_normal ?_
      refine WC.seq ?_
      refine WC.seq ?_
      refine WC.region ?_
      refine WL.move rfl rfl ?_
      refine WL.arith rfl rfl rfl rfl ?_
      refine WL.nil ?_
      refine WE.then_normal ?_
      refine WC.condT rfl (fun h3 => ?_) (fun h3 => ?_)
      · try simp at h3
        all_goals (
          refine WC.exit ?_
          refine WE.then_exit ?_
          refine WE.block_exit ?_
          refine WE.then_normal ?_
          refine WC.region ?_
          first | refine WL.add rfl rfl (by omega) rfl ?_ | refine WL.arith rfl rfl rfl rfl ?_
          refine WL.move rfl rfl ?_
          refine WL.nil ?_
          refine WE.pick [0, 1, 3] rfl rfl ?_
          refine WE.backG (k + 1, setM ws (w64 (a + b0.at_)) 0, hp, A1', k1', Cw1') (⟨by simp only; omega, dropBs_z (by assumption) hdr, hw1, hS1⟩) (by simp only; omega) ⟨rfl, trivial⟩ (by repeat (first | exact trivial | refine ⟨rfl, ?_⟩)) (rfl) (rfl)
        )
      · try simp at h3
        all_goals (
          refine WC.skip ?_
          refine WE.then_normal ?_
          refine WC.seq ?_
          refine WC.seq ?_
          refine WC.region ?_
          have hto : wordM ws (w64 (a + b0.at_)) ≠ 0 := by assumption
          refine WL.fieldAddr rfl tF83_2_p rfl ?_
          refine WL.load_own 2 rfl rfl tA3_p rfl rfl ?_
          refine WL.arith rfl rfl rfl rfl ?_
          refine WL.nil ?_
          refine WE.then_normal ?_
          refine WC.condT rfl (fun h4 => ?_) (fun h4 => ?_)
          · try simp at h4
            all_goals (
              refine WC.region ?_
              have hshp : 0 ≤ b0.shp := by assumption
              refine WL.move rfl rfl ?_
              refine WL.move rfl rfl ?_
              refine WL.fieldAddr rfl tF83_2_p rfl ?_
              refine WL.load_own 2 rfl rfl tA3_p rfl rfl ?_
              refine WL.pick [0, 1, 3, 2] rfl rfl ?_
              obtain ⟨r2, hr2, hdr2⟩ := dropBs_p hto hshp hdr
              have hw2 := dropF_wf c n _ _ _ _ r2 hw1 hr2
              refine WL.perm (fun _ hs => hs.join3) ?_
              refine WL.callS (dd := some 44) okF68_p rfl rfl (ih x _ _ A1' k1' Cw1' bm Em bh Eh _ b0.shp I r2 hshp hb1 hr2 hw1 hr hhp hv1 hS1) (fun v2 I2 C2 _ hv => ?_)
              obtain ⟨hI2, A2', k2', Cw2', rfl, hS2'⟩ := hv
              have hI2 := hI2.symm
              subst hI2
              refine WL.perm (fun _ hs => hs.part3) ?_
              refine WL.nil ?_
              refine WE.then_normal ?_
              refine WC.seq ?_
              refine WC.region ?_
              refine WL.move rfl rfl ?_
              refine WL.move rfl rfl ?_
              refine WL.arith rfl rfl rfl rfl ?_
              refine WL.nil ?_
              refine WE.then_normal ?_
              refine WC.condT rfl (fun h5 => ?_) (fun h5 => ?_)
              · try simp at h5
                all_goals (
                  refine WC.region ?_
                  refine WL.move rfl rfl ?_
                  refine WL.nilCheck rfl rfl ?_
                  refine WL.fieldAddr rfl tF69_1_p rfl ?_
                  refine WL.load_own 0 rfl rfl tA61_p mc4 rfl ?_
                  refine WL.move rfl rfl ?_
                  refine WL.reslot 51 rfl hhp ?_
                  refine WL.pick [2, 0, 1, 3] rfl rfl ?_
                  refine WL.callS (dd := some 53) okF84_p rfl rfl (give_spec r2.2 _ bh Eh I hw2.heap (wordM_rg hww.rg _)) (fun v3 I3 C3 _ hv => ?_)
                  obtain ⟨hv1', hI3, rfl⟩ := hv
                  have hI3 := hI3.symm
                  subst hI3
                  refine WL.nil ?_
                  refine WE.block_normal ?_
                  refine WE.then_normal ?_
                  refine WC.region ?_
                  first | refine WL.add rfl rfl (by omega) rfl ?_ | refine WL.arith rfl rfl rfl rfl ?_
                  refine WL.move rfl rfl ?_
                  refine WL.nil ?_
                  refine WE.pick [1, 2, 0] rfl rfl ?_
                  refine WE.backG (k + 1, r2.1, giveH r2.2 (wordM ws (w64 (a + b0.at_))), A2', k2', Cw2') (⟨by simp only; omega, hdr2, ⟨hw2.rg, hw2.len, giveH_wf hw2.heap _⟩, hS2'⟩) (by simp only; omega) ⟨rfl, trivial⟩ (by repeat (first | exact trivial | refine ⟨rfl, ?_⟩)) (rfl) (rfl)
                )
              · try simp at h5
                all_goals (
                  refine WC.skip ?_
                  refine WE.block_normal ?_
                  refine WE.then_normal ?_
                  refine WC.region ?_
                  first | refine WL.add rfl rfl (by omega) rfl ?_ | refine WL.arith rfl rfl rfl rfl ?_
                  refine WL.move rfl rfl ?_
                  refine WL.nil ?_
                  refine WE.pick [0, 1, 2] rfl rfl ?_
                  refine WE.backG (k + 1, r2.1, giveH r2.2 (wordM ws (w64 (a + b0.at_))), A2', k2', Cw2') (⟨by simp only; omega, hdr2, ⟨hw2.rg, hw2.len, giveH_wf hw2.heap _⟩, hS2'⟩) (by simp only; omega) ⟨rfl, trivial⟩ (by repeat (first | exact trivial | refine ⟨rfl, ?_⟩)) (rfl) (rfl)
                )
            )
          · try simp at h4
            all_goals (
              refine WC.skip ?_
              refine WE.then_normal ?_
              refine WC.seq ?_
              refine WC.region ?_
              have hshp : ¬ 0 ≤ b0.shp := by omega
              refine WL.move rfl rfl ?_
              refine WL.move rfl rfl ?_
              refine WL.arith rfl rfl rfl rfl ?_
              refine WL.nil ?_
              refine WE.then_normal ?_
              refine WC.condT rfl (fun h6 => ?_) (fun h6 => ?_)
              · try simp at h6
                all_goals (
                  refine WC.region ?_
                  refine WL.move rfl rfl ?_
                  refine WL.nilCheck rfl rfl ?_
                  refine WL.fieldAddr rfl tF69_1_p rfl ?_
                  refine WL.load_own 0 rfl rfl tA61_p mc4 rfl ?_
                  refine WL.move rfl rfl ?_
                  refine WL.reslot 51 rfl hhp ?_
                  refine WL.pick [3, 0, 1, 2] rfl rfl ?_
                  refine WL.callS (dd := some 53) okF84_p rfl rfl (give_spec hp _ bh Eh I hw1.heap (wordM_rg hww.rg _)) (fun v3 I3 C3 _ hv => ?_)
                  obtain ⟨hv1', hI3, rfl⟩ := hv
                  have hI3 := hI3.symm
                  subst hI3
                  refine WL.nil ?_
                  refine WE.block_normal ?_
                  refine WE.then_normal ?_
                  refine WC.region ?_
                  first | refine WL.add rfl rfl (by omega) rfl ?_ | refine WL.arith rfl rfl rfl rfl ?_
                  refine WL.move rfl rfl ?_
                  refine WL.nil ?_
                  refine WE.pick [1, 2, 0] rfl rfl ?_
                  refine WE.backG (k + 1, setM ws (w64 (a + b0.at_)) 0, giveH hp (wordM ws (w64 (a + b0.at_))), A1', k1', Cw1') (⟨by simp only; omega, dropBs_n hto hshp hdr, ⟨hw1.rg, hw1.len, giveH_wf hw1.heap _⟩, hS1⟩) (by simp only; omega) ⟨rfl, trivial⟩ (by repeat (first | exact trivial | refine ⟨rfl, ?_⟩)) (rfl) (rfl)
                )
              · try simp at h6
                all_goals (
                  refine WC.skip ?_
                  refine WE.block_normal ?_
                  refine WE.then_normal ?_
                  refine WC.region ?_
                  first | refine WL.add rfl rfl (by omega) rfl ?_ | refine WL.arith rfl rfl rfl rfl ?_
                  refine WL.move rfl rfl ?_
                  refine WL.nil ?_
                  refine WE.pick [0, 1, 3] rfl rfl ?_
                  refine WE.backG (k + 1, setM ws (w64 (a + b0.at_)) 0, giveH hp (wordM ws (w64 (a + b0.at_))), A1', k1', Cw1') (⟨by simp only; omega, dropBs_n hto hshp hdr, ⟨hw1.rg, hw1.len, giveH_wf hw1.heap _⟩, hS1⟩) (by simp only; omega) ⟨rfl, trivial⟩ (by repeat (first | exact trivial | refine ⟨rfl, ?_⟩)) (rfl) (rfl)
                )
            )
        )
    )
  · try simp at h1
    all_goals (
      refine WC.exit ?_
      refine WE.then_exit ?_
      refine WE.then_exit ?_
      refine WE.block_exit ?_
      have hke : sh.boxes.length ≤ k := by omega
      rw [List.drop_of_length_le hke, dropBs] at hd
      injection hd with hd
      subst hd
      refine WE.perm (fun w hs => hs.join3) ?_
      refine WE.endCr rfl .nil rfl ?_
      exact ⟨rfl, A, kx, Cx, rfl, hS⟩
    )
end Go.Proofs.YtddkkmdbolgnlaaDoor.Fw
