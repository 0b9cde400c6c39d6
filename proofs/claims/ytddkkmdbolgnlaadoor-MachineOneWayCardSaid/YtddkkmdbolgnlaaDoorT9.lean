/- A part of the proof: steps of the walk and laws that the claim's theorem rests on; each lemma states its own conditions. -/
import Derived.Test.YtddkkmdbolgnlaaDoorWalkD
import Derived.Test.YtddkkmdbolgnlaaDoorProg
set_option linter.unusedVariables false
set_option linter.unusedSimpArgs false
namespace Go.Proofs.YtddkkmdbolgnlaaDoor.Fw
open Go.Proofs
set_option maxRecDepth 100000
set_option linter.unusedVariables false
set_option linter.unusedSimpArgs false
theorem tStr9_w : strT Tryd.prog 9 = true := by kernel_rfl
theorem tAr139_w : arrT Tryd.prog 139 = some (256, 5) := by kernel_rfl
theorem tS5_w : szT Tryd.prog 5 = some 1 := by kernel_rfl
theorem tA5_w : aggT Tryd.prog 5 = some false := by kernel_rfl
theorem tI5_w : intT Tryd.prog 5 = some .u8 := by kernel_rfl
theorem tI3_w : intT Tryd.prog 3 = some .i64 := by kernel_rfl
theorem tE132_w : sliceT Tryd.prog 132 = some 9 := by kernel_rfl
theorem tS9_w : szT Tryd.prog 9 = some 1 := by kernel_rfl
theorem tB9_w : bytesT Tryd.prog 9 = some 16 := by kernel_rfl
theorem tZ9_w : zeroT Tryd.prog 9 = some (.string ByteArray.empty) := by kernel_rfl
theorem okF89_w : okFn Tryd.prog 89 Tryd.f89 := ⟨Tryd.func89, by kernel_rfl, rfl⟩
theorem okF86_w : okFn Tryd.prog 86 Tryd.f86 := ⟨Tryd.func86, by kernel_rfl, rfl⟩
theorem tA9_w : aggT Tryd.prog 9 = some false := by kernel_rfl
theorem fieldsF_spec (s : ByteArray) (I : Mem) (hsp : SpTab 0 I) (hasc : ∀ c ∈ s.data.toList, c.toNat < 128) (hlen : s.size ≤ 8796093022208) : SpecR Tryd.prog 89 [.string s] I (fun v I' => I.le I' ∧ SlV StrR 1 I' (fieldsS s.data.toList) v) := by
  obtain ⟨bs, hbs⟩ : ∃ bs, bs = s.data.toList := ⟨_, rfl⟩
  have hbl : bs.length = s.size := by rw [hbs]; rfl
  rw [← hbs] at hasc ⊢
  have hcnt := fieldsS_len bs
  have hcle := cntG_le bs true
  refine SpecR.intro Tryd.func89 rfl rfl fun w0 => ?_
  show WC _ _ _ _ [] [(0, _)] _ _ _
  refine WC.seq ?_
  refine WC.region ?_
  refine WL.assign rfl rfl ?_
  refine WL.nil ?_
  refine WE.then_normal ?_
  refine WC.seq ?_
  refine WC.region ?_
  refine WL.assign rfl rfl ?_
  refine WL.nil ?_
  refine WE.then_normal ?_
  refine WC.seq ?_
  refine WC.region ?_
  refine WL.assign rfl rfl ?_
  refine WL.nil ?_
  refine WE.then_normal ?_
  refine WC.seq ?_
  refine WC.region ?_
  refine WL.assign rfl rfl ?_
  refine WL.nil ?_
  refine WE.then_normal ?_
  refine WC.seq ?_
  refine WC.seq ?_
  refine WC.region ?_
  refine WL.assign rfl rfl ?_
  refine WL.nil ?_
  refine WE.then_normal ?_
  refine WC.block ?_
  refine WC.loopV (X := Nat × Nat × Bool × Int) [0, 2, 9, 10, 11, 12, 36, 37, 38, 39, 40, 41, 42, 43, 44, 45, 46, 47, 48, 49, 50, 51, 52, 53, 54, 55, 56, 57, 58, 59, 60, 61, 62, 63, 64, 65, 66, 67, 68, 69, 70, 71, 72, 73, 74, 75, 76, 77, 78, 79, 80, 81, 82, 83, 84, 85, 86, 87, 88, 89, 90, 91, 92, 93, 94, 95, 96, 97, 98, 99, 100, 101, 102, 103, 104, 105] rfl (fun x => [(3, .int .i64 (x.2.1 : Int)), (4, .int .i64 (bI x.2.2.1)), (5, .int .u8 x.2.2.2), (6, .int .i64 (x.1 : Int))]) (fun x => x.1 ≤ bs.length ∧ x.2.1 ≤ x.1 ∧ x.2.1 + cntG (bs.drop x.1) x.2.2.1 = cntG bs true ∧ 0 ≤ x.2.2.2 ∧ x.2.2.2 < 128) (fun x => bs.length - x.1) (0, 0, true, 0) (⟨Nat.zero_le _, Nat.le_refl _, by simp, by simp, by simp⟩) ⟨rfl, rfl, rfl, rfl, trivial⟩ (fun x hinv => ?_)
  obtain ⟨i, n, w, b⟩ := x
  obtain ⟨hi, hn, hcn, hb0, hb128⟩ := hinv
  simp only at hi hn hcn hb0 hb128
  dsimp only
  refine WC.seq ?_
  refine WC.seq ?_
  refine WC.region ?_
  refine WL.move rfl rfl ?_
  refine WL.move rfl rfl ?_
  refine WL.len_string rfl tStr9_w rfl ?_
  refine WL.arith rfl rfl rfl rfl ?_
  refine WL.nil ?_
  refine WE.then_normal ?_
  refine WC.condT rfl (fun h1 => ?_) (fun h1 => ?_)
  · try simp only [decide_eq_true_eq, decide_eq_false_iff_not, beq_iff_eq, bne_iff_ne, ne_eq, beq_eq_false_iff_ne, bne_eq_false_iff_eq, gt_iff_lt, ge_iff_le, Int.not_lt, Int.not_le] at h1
    try (exfalso; omega)
    all_goals (
      refine WC.skip ?_
      refine WE.then_normal ?_
      refine WC.seq ?_
      refine WC.block ?_
      refine WC.seq ?_
      refine WC.region ?_
      obtain ⟨c, hc⟩ : ∃ c, bs[i]? = some c := ⟨_, List.getElem?_eq_getElem (by omega)⟩
      have hct : I.cell? ⟨0, 0 + ((c.toNat : Nat) : Int).toNat * 1, none⟩ = some (.int .u8 (bI (isSp c))) := by simpa using hsp c
      have hc128 : c.toNat < 128 := hasc c (List.mem_of_getElem? hc)
      have hb1 := bI_rg (isSp c)
      have hcs : s.data.toList[i]? = some c := by rw [← hbs]; exact hc
      refine WL.move rfl rfl ?_
      refine WL.move rfl rfl ?_
      refine WL.byte rfl rfl tStr9_w rfl hcs ?_
      refine WL.assign rfl rfl ?_
      refine WL.nil ?_
      refine WE.then_normal ?_
      refine WC.seq ?_
      refine WC.region ?_
      refine WL.move rfl rfl ?_
      refine WL.move rfl rfl ?_
      refine WL.bits rfl rfl rfl rfl ?_
      refine WL.assign rfl rfl ?_
      refine WL.nil ?_
      refine WE.then_normal ?_
      refine WC.seq ?_
      refine WC.region ?_
      refine WL.move rfl rfl ?_
      refine WL.indexAddr_arr rfl rfl tAr139_w tS5_w rfl (by first | omega) ?_
      refine WL.load_imm rfl tA5_w rfl (by first | exact hct) ?_
      first | refine WL.convert_in rfl tI5_w tI3_w rfl (IntWalk.i64_in _ (by omega)) ?_ | refine WL.convert_int rfl tI5_w tI3_w rfl ?_
      refine WL.assign rfl rfl ?_
      refine WL.nil ?_
      refine WE.then_normal ?_
      refine WC.seq ?_
      refine WC.region ?_
      refine WL.move rfl rfl ?_
      refine WL.move rfl rfl ?_
      refine WL.move rfl rfl ?_
      refine WL.unxor rfl rfl ?_
      refine WL.bits rfl rfl rfl rfl ?_
      rw [andn_w]
      have hbn := bN_le (w && !isSp c)
      first | refine WL.add rfl rfl (by omega) rfl ?_ | refine WL.arith rfl rfl rfl rfl ?_
      refine WL.assign rfl rfl ?_
      refine WL.nil ?_
      refine WE.then_normal ?_
      refine WC.region ?_
      refine WL.move rfl rfl ?_
      refine WL.assign rfl rfl ?_
      refine WL.nil ?_
      refine WE.block_normal ?_
      refine WE.then_normal ?_
      refine WC.region ?_
      refine WL.move rfl rfl ?_
      first | refine WL.add rfl rfl (by omega) rfl ?_ | refine WL.arith rfl rfl rfl rfl ?_
      refine WL.assign rfl rfl ?_
      refine WL.nil ?_
      refine WE.backV (i + 1, n + bN (w && !isSp c), isSp c, bitsV .or .u8 b c.toNat) (by
        have ho := or_u8 (a := b) (c := (c.toNat : Int)) ⟨hb0, hb128⟩ ⟨by omega, by omega⟩
        refine ⟨by simp only; omega, ?_, ?_, ho.1, ho.2⟩
        · simp only; have : bN (w && !isSp c) ≤ 1 := by unfold bN; split <;> omega
          omega
        · rw [drop_at hc] at hcn; simp only [cntG] at hcn ⊢; omega) (by simp only; omega) ⟨rfl, rfl, rfl, rfl, trivial⟩ (by repeat (first | exact trivial | refine ⟨rfl, ?_⟩))
    )
  · try simp only [decide_eq_true_eq, decide_eq_false_iff_not, beq_iff_eq, bne_iff_ne, ne_eq, beq_eq_false_iff_ne, bne_eq_false_iff_eq, gt_iff_lt, ge_iff_le, Int.not_lt, Int.not_le] at h1
    try (exfalso; omega)
    all_goals (
      refine WC.exit ?_
      refine WE.then_exit ?_
      refine WE.then_exit ?_
      refine WE.block_exit ?_
      refine WE.then_normal ?_
      refine WC.seq ?_
      refine WC.seq ?_
      refine WC.region ?_
      refine WL.move rfl rfl ?_
      refine WL.arith rfl rfl rfl rfl ?_
      refine WL.nil ?_
      refine WE.then_normal ?_
      refine WC.condT rfl (fun h2 => ?_) (fun h2 => ?_)
      · try simp only [decide_eq_true_eq, decide_eq_false_iff_not, beq_iff_eq, bne_iff_ne, ne_eq, beq_eq_false_iff_ne, bne_eq_false_iff_eq, gt_iff_lt, ge_iff_le, Int.not_lt, Int.not_le] at h2
        try (exfalso; omega)
        all_goals (
          refine WC.seq ?_
          refine WC.region ?_
          refine WL.move rfl rfl ?_
          omega
          refine WL.assign rfl rfl ?_
          refine WL.nil ?_
          refine WE.then_normal ?_
          refine WC.ret ?_
          refine WE.then_ret ?_
          refine WE.freezeB (fun I1 hI1 hb1 => ?_)
          refine WE.retR [2] rfl rfl rfl ?_
          refine ⟨hI1, ?_⟩
          have hnn2 : n = (fieldsG bs []).length := hnn
          rw [congrArg List.length hall] at hnn2
          rw [pieces_all hnn2.symm] at hb1
          have := cells_str hb1
          rw [← hall] at this
          exact ⟨_, n, by rw [hnn]; rfl, by have := fieldsS_le bs; omega, by rw [hnn]; exact Nat.le_refl _, this⟩
        )
      · try simp only [decide_eq_true_eq, decide_eq_false_iff_not, beq_iff_eq, bne_iff_ne, ne_eq, beq_eq_false_iff_ne, bne_eq_false_iff_eq, gt_iff_lt, ge_iff_le, Int.not_lt, Int.not_le] at h2
        try (exfalso; omega)
        all_goals (
          refine WC.skip ?_
          refine WE.then_normal ?_
          refine WC.seq ?_
          refine WC.region ?_
          have hnn : n = (fieldsS bs).length := by
            have e : i = bs.length := by omega
            rw [e, List.drop_length] at hcn; simp only [cntG] at hcn; omega
          refine WL.move rfl rfl ?_
          refine WL.makeSlice rfl tE132_w tS9_w tB9_w tZ9_w rfl rfl rfl (by omega) (by omega) rfl (fun b3 => ?_)
          refine WL.assign rfl rfl ?_
          refine WL.nil ?_
          refine WE.then_normal ?_
          refine WC.seq ?_
          refine WC.region ?_
          refine WL.assign rfl rfl ?_
          refine WL.nil ?_
          refine WE.then_normal ?_
          refine WC.seq ?_
          refine WC.region ?_
          refine WL.assign rfl rfl ?_
          refine WL.nil ?_
          refine WE.then_normal ?_
          refine WC.seq ?_
          refine WC.region ?_
          refine WL.assign rfl rfl ?_
          refine WL.nil ?_
          refine WE.then_normal ?_
          refine WC.seq ?_
          refine WC.block ?_
          refine WC.loopV (X := Nat) [0, 2, 9, 10, 11, 56, 57, 58, 59, 60, 61, 62, 63, 64, 65, 66, 67, 68, 69, 70, 71, 72, 73, 74, 75, 76, 77, 78, 79, 80, 81, 82, 83, 84, 85, 86, 87, 88, 89, 90, 91, 92, 93, 94, 95, 96, 97, 98, 99, 100, 101, 102, 103, 104, 105] rfl (fun i => [(12, .int .i64 (i : Int))]) (fun i => i ≤ bs.length ∧ fieldsG bs [] = fieldsG (bs.drop i) []) (fun i => bs.length - i) 0 (⟨Nat.zero_le _, rfl⟩) ⟨rfl, trivial⟩ (fun i hinv => ?_)
          obtain ⟨hi, hf⟩ := hinv
          refine WC.seq ?_
          refine WC.seq ?_
          refine WC.region ?_
          refine WL.cutV (X := Unit) [0, 2, 3, 4, 5, 6, 7, 8, 9, 10, 11, 12, 13, 14, 15, 16, 17, 18, 19, 20, 21, 22, 23, 24, 25, 26, 27, 28, 29, 30, 31, 32, 33, 34, 35, 36, 37, 38, 39, 40, 41, 54, 55, 56, 57, 58, 59, 60, 61, 62, 63, 64, 65, 66, 67, 68, 69, 70, 71, 72, 73, 74, 75, 76, 77, 78, 79, 80, 81, 82, 83, 84, 85, 86, 87, 88, 89, 90, 91, 92, 93, 94, 95, 96, 97, 98, 99, 100, 101, 102, 103, 104, 105] rfl (fun _ => [(53, .bool (spAt bs i))]) (fun _ => True) 12 rfl rfl ?_ (fun _ _ => ?_)
          · refine WL.move rfl rfl ?_
            refine WL.move rfl rfl ?_
            refine WL.len_string rfl tStr9_w rfl ?_
            refine WL.arith rfl rfl rfl rfl ?_
            refine WL.move rfl rfl ?_
            refine WL.split 46 rfl (fun h4 => ?_) (fun h4 => ?_)
            · try simp only [decide_eq_true_eq, decide_eq_false_iff_not, beq_iff_eq, bne_iff_ne, ne_eq, beq_eq_false_iff_ne, bne_eq_false_iff_eq, gt_iff_lt, ge_iff_le, Int.not_lt, Int.not_le] at h4
              try (exfalso; omega)
              all_goals (
                refine WL.guard_yes rfl rfl ?_
                refine WL.move rfl rfl ?_
                refine WL.guard_yes rfl rfl ?_
                refine WL.move rfl rfl ?_
                refine WL.guard_yes rfl rfl ?_
                obtain ⟨c, hc⟩ : ∃ c, bs[i]? = some c := ⟨_, List.getElem?_eq_getElem (by omega)⟩
                have hct : I.cell? ⟨0, 0 + ((c.toNat : Nat) : Int).toNat * 1, none⟩ = some (.int .u8 (bI (isSp c))) := by simpa using hsp c
                have hc128 : c.toNat < 128 := hasc c (List.mem_of_getElem? hc)
                have hb1 := bI_rg (isSp c)
                have hcs : s.data.toList[i]? = some c := by rw [← hbs]; exact hc
                refine WL.byte rfl rfl tStr9_w rfl hcs ?_
                refine WL.guard_yes rfl rfl ?_
                refine WL.indexAddr_arr rfl rfl tAr139_w tS5_w rfl (by first | omega) ?_
                refine WL.guard_yes rfl rfl ?_
                refine WL.load_imm rfl tA5_w rfl (by first | exact hct) ?_
                refine WL.guard_yes rfl rfl ?_
                refine WL.arith rfl rfl rfl rfl ?_
                refine WL.pick_true rfl rfl rfl ?_
                refine WL.nil ?_
                refine WE.midV () trivial ⟨congrArg (fun b => some (Value.bool b)) (by first | (rw [bI_ne, spAt_some hc]; done) | (rw [spAt_none (by omega)]; done)), trivial⟩ (by repeat (first | exact trivial | refine ⟨rfl, ?_⟩))
              )
            · try simp only [decide_eq_true_eq, decide_eq_false_iff_not, beq_iff_eq, bne_iff_ne, ne_eq, beq_eq_false_iff_ne, bne_eq_false_iff_eq, gt_iff_lt, ge_iff_le, Int.not_lt, Int.not_le] at h4
              try (exfalso; omega)
              all_goals (
                refine WL.guard_no rfl rfl rfl rfl ?_
                refine WL.guard_no rfl rfl rfl rfl ?_
                refine WL.guard_no rfl rfl rfl rfl ?_
                refine WL.guard_no rfl rfl rfl rfl ?_
                refine WL.guard_no rfl rfl rfl rfl ?_
                refine WL.guard_no rfl rfl rfl rfl ?_
                refine WL.pick_false rfl rfl rfl ?_
                refine WL.nil ?_
                refine WE.midV () trivial ⟨congrArg (fun b => some (Value.bool b)) (by first | (rw [bI_ne, spAt_some hc]; done) | (rw [spAt_none (by omega)]; done)), trivial⟩ (by repeat (first | exact trivial | refine ⟨rfl, ?_⟩))
              )
          · refine WL.nil ?_
            refine WE.then_normal ?_
            refine WC.condT rfl (fun h5 => ?_) (fun h5 => ?_)
            · try simp only [decide_eq_true_eq, decide_eq_false_iff_not, beq_iff_eq, bne_iff_ne, ne_eq, beq_eq_false_iff_ne, bne_eq_false_iff_eq, gt_iff_lt, ge_iff_le, Int.not_lt, Int.not_le] at h5
              try (exfalso; omega)
              all_goals (
                refine WC.skip ?_
                refine WE.then_normal ?_
                refine WC.block ?_
                refine WC.region ?_
                refine WL.move rfl rfl ?_
                first | refine WL.add rfl rfl (by omega) rfl ?_ | refine WL.arith rfl rfl rfl rfl ?_
                refine WL.assign rfl rfl ?_
                refine WL.nil ?_
                refine WE.block_normal ?_
                have hlt := spAt_lt ‹spAt bs i = true›
                obtain ⟨c, hc⟩ : ∃ c, bs[i]? = some c := ⟨_, List.getElem?_eq_getElem hlt⟩
                have hsc : isSp c = true := by rw [← spAt_some hc]; assumption
                refine WE.backV (i + 1) (⟨by omega, by rw [hf, drop_at hc, fieldsG_sp0 hsc]⟩) (by have := spAt_lt ‹spAt bs i = true›; omega) ⟨rfl, trivial⟩ (by repeat (first | exact trivial | refine ⟨rfl, ?_⟩))
              )
            · try simp only [decide_eq_true_eq, decide_eq_false_iff_not, beq_iff_eq, bne_iff_ne, ne_eq, beq_eq_false_iff_ne, bne_eq_false_iff_eq, gt_iff_lt, ge_iff_le, Int.not_lt, Int.not_le] at h5
              try (exfalso; omega)
              all_goals (
                refine WC.exit ?_
                refine WE.then_exit ?_
                refine WE.then_exit ?_
                refine WE.block_exit ?_
                refine WE.then_normal ?_
                refine WC.seq ?_
                refine WC.region ?_
                have hns : spAt bs i = false := by assumption
                refine WL.move rfl rfl ?_
                refine WL.assign rfl rfl ?_
                refine WL.nil ?_
                refine WE.then_normal ?_
                refine WC.seq ?_
                refine WC.block ?_
                refine WC.loopG (X := List (List UInt8) × Nat × Nat) [0, 2, 9, 95, 96, 97, 98, 99, 100, 101, 102, 103, 104, 105] rfl (fun x => [(10, .int .i64 (x.1.length : Int)), (11, .int .i64 (x.2.1 : Int)), (12, .int .i64 (x.2.2 : Int))]) (fun x => _) (fun x => [[(b3, .cells (pieces n x.1).toArray 9 (0, 0))]]) (fun x => x.2.1 ≤ x.2.2 ∧ x.2.2 ≤ bs.length ∧ fieldsG bs [] = x.1 ++ fieldsG (bs.drop x.2.2) (seg bs x.2.1 x.2.2).reverse ∧ (x.2.1 = x.2.2 → spAt bs x.2.2 = false)) (fun x => bs.length - x.2.2) ([], i, i) (⟨Nat.le_refl _, hi, by rw [seg_self, List.reverse_nil, List.nil_append]; exact hf, fun _ => hns⟩) ⟨rfl, rfl, rfl, trivial⟩ (rfl) (by simp [pieces, zerosL_one]) (fun x hinv => ?_)
                obtain ⟨dn, fs, i⟩ := x
                obtain ⟨hfi, hi, hf, hns⟩ := hinv
                simp only at hfi hi hf hns
                have hdl : dn.length ≤ n := by have := congrArg List.length hf; rw [List.length_append] at this; unfold fieldsS at hnn; omega
                dsimp only
                refine WC.seq ?_
                refine WC.seq ?_
                refine WC.region ?_
                refine WL.move rfl rfl ?_
                refine WL.move rfl rfl ?_
                refine WL.len_string rfl tStr9_w rfl ?_
                refine WL.arith rfl rfl rfl rfl ?_
                refine WL.nil ?_
                refine WE.then_normal ?_
                refine WC.condT rfl (fun h6 => ?_) (fun h6 => ?_)
                · try simp only [decide_eq_true_eq, decide_eq_false_iff_not, beq_iff_eq, bne_iff_ne, ne_eq, beq_eq_false_iff_ne, bne_eq_false_iff_eq, gt_iff_lt, ge_iff_le, Int.not_lt, Int.not_le] at h6
                  try (exfalso; omega)
                  all_goals (
                    refine WC.skip ?_
                    refine WE.then_normal ?_
                    refine WC.block ?_
                    refine WC.seq ?_
                    refine WC.seq ?_
                    refine WC.region ?_
                    obtain ⟨c, hc⟩ : ∃ c, bs[i]? = some c := ⟨_, List.getElem?_eq_getElem (by omega)⟩
                    have hct : I.cell? ⟨0, 0 + ((c.toNat : Nat) : Int).toNat * 1, none⟩ = some (.int .u8 (bI (isSp c))) := by simpa using hsp c
                    have hc128 : c.toNat < 128 := hasc c (List.mem_of_getElem? hc)
                    have hb1 := bI_rg (isSp c)
                    have hcs : s.data.toList[i]? = some c := by rw [← hbs]; exact hc
                    refine WL.move rfl rfl ?_
                    refine WL.move rfl rfl ?_
                    refine WL.byte rfl rfl tStr9_w rfl hcs ?_
                    refine WL.indexAddr_arr rfl rfl tAr139_w tS5_w rfl (by first | omega) ?_
                    refine WL.load_imm rfl tA5_w rfl (by first | exact hct) ?_
                    refine WL.arith rfl rfl rfl rfl ?_
                    refine WL.nil ?_
                    refine WE.then_normal ?_
                    refine WC.condT rfl (fun h7 => ?_) (fun h7 => ?_)
                    · try simp only [decide_eq_true_eq, decide_eq_false_iff_not, beq_iff_eq, bne_iff_ne, ne_eq, beq_eq_false_iff_ne, bne_eq_false_iff_eq, gt_iff_lt, ge_iff_le, Int.not_lt, Int.not_le] at h7
                      try (exfalso; omega)
                      all_goals (
                        refine WC.seq ?_
                        refine WC.region ?_
                        have hsc : isSp c = false := bI_0 ‹_›
                        refine WL.move rfl rfl ?_
                        first | refine WL.add rfl rfl (by omega) rfl ?_ | refine WL.arith rfl rfl rfl rfl ?_
                        refine WL.assign rfl rfl ?_
                        refine WL.nil ?_
                        refine WE.then_normal ?_
                        refine WC.exit ?_
                        refine WE.then_exit ?_
                        refine WE.block_exit ?_
                        refine WE.backG (dn, fs, i + 1) (⟨by simp only; omega, by simp only; omega, by simp only; rw [hf, drop_at hc, fieldsG_no hsc, seg_succ hfi hc, List.reverse_append]; rfl, fun h => by simp only at h; omega⟩) (by simp only; omega) ⟨rfl, rfl, rfl, trivial⟩ (by repeat (first | exact trivial | refine ⟨rfl, ?_⟩)) (rfl) (rfl)
                      )
                    · try simp only [decide_eq_true_eq, decide_eq_false_iff_not, beq_iff_eq, bne_iff_ne, ne_eq, beq_eq_false_iff_ne, bne_eq_false_iff_eq, gt_iff_lt, ge_iff_le, Int.not_lt, Int.not_le] at h7
                      try (exfalso; omega)
                      all_goals (
                        refine WC.skip ?_
                        refine WE.then_normal ?_
                        refine WC.seq ?_
                        refine WC.region ?_
                        have hsc : isSp c = true := bI_1 ‹_›
                        have hlt : fs < i := Nat.lt_of_le_of_ne hfi fun e => by have := hns e; rw [spAt_some hc, hsc] at this; cases this
                        have hsne : (seg bs fs i).reverse ≠ [] := by simpa using seg_ne hlt hi
                        have hdn : dn.length < n := by have := congrArg List.length hf; rw [List.length_append] at this; have := List.length_pos_iff.2 (fieldsG_ne (r := bs.drop i) hsne); unfold fieldsS at hnn; omega
                        refine WL.move rfl rfl ?_
                        refine WL.move rfl rfl ?_
                        refine WL.move rfl rfl ?_
                        refine WL.move rfl rfl ?_
                        refine WL.move rfl rfl ?_
                        refine WL.str_lohi rfl rfl rfl tStr9_w rfl (by first | omega) ?_
                        refine WL.indexAddr rfl rfl tE132_w tS9_w rfl (by first | omega) ?_
                        refine WL.store_at 0 rfl rfl rfl rfl tS9_w rfl rfl (by rw [pieces_len hdl]; simp; omega) rfl ?_
                        refine WL.nil ?_
                        refine WE.then_normal ?_
                        refine WC.seq ?_
                        refine WC.region ?_
                        refine WL.move rfl rfl ?_
                        first | refine WL.add rfl rfl (by omega) rfl ?_ | refine WL.arith rfl rfl rfl rfl ?_
                        refine WL.assign rfl rfl ?_
                        refine WL.nil ?_
                        refine WE.then_normal ?_
                        refine WC.seq ?_
                        refine WC.region ?_
                        refine WL.move rfl rfl ?_
                        first | refine WL.add rfl rfl (by omega) rfl ?_ | refine WL.arith rfl rfl rfl rfl ?_
                        refine WL.assign rfl rfl ?_
                        refine WL.nil ?_
                        refine WE.then_normal ?_
                        refine WC.seq ?_
                        refine WC.block ?_
                        refine WC.loopV (X := Nat) [0, 2, 9, 10, 11, 94, 95, 96, 97, 98, 99, 100, 101, 102, 103, 104, 105] rfl (fun k => [(12, .int .i64 (k : Int))]) (fun k => i + 1 ≤ k ∧ k ≤ bs.length ∧ fieldsG (bs.drop (i + 1)) [] = fieldsG (bs.drop k) []) (fun k => bs.length - k) (i + 1) (⟨Nat.le_refl _, by omega, rfl⟩) ⟨rfl, trivial⟩ (fun k hinv => ?_)
                        obtain ⟨hki, hk, hfk⟩ := hinv
                        refine WC.seq ?_
                        refine WC.seq ?_
                        refine WC.region ?_
                        refine WL.cutV (X := Unit) [0, 2, 3, 4, 5, 6, 7, 8, 9, 10, 11, 12, 13, 14, 15, 16, 17, 18, 19, 20, 21, 22, 23, 24, 25, 26, 27, 28, 29, 30, 31, 32, 33, 34, 35, 36, 37, 38, 39, 40, 41, 42, 43, 44, 45, 46, 47, 48, 49, 50, 51, 52, 53, 54, 55, 56, 57, 58, 59, 60, 61, 62, 63, 64, 65, 66, 67, 68, 69, 70, 71, 72, 73, 74, 75, 76, 77, 78, 79, 92, 93, 94, 95, 96, 97, 98, 99, 100, 101, 102, 103, 104, 105] rfl (fun _ => [(91, .bool (spAt bs k))]) (fun _ => True) 12 rfl rfl ?_ (fun _ _ => ?_)
                        · refine WL.move rfl rfl ?_
                          refine WL.move rfl rfl ?_
                          refine WL.len_string rfl tStr9_w rfl ?_
                          refine WL.arith rfl rfl rfl rfl ?_
                          refine WL.move rfl rfl ?_
                          refine WL.split 84 rfl (fun h8 => ?_) (fun h8 => ?_)
                          · try simp only [decide_eq_true_eq, decide_eq_false_iff_not, beq_iff_eq, bne_iff_ne, ne_eq, beq_eq_false_iff_ne, bne_eq_false_iff_eq, gt_iff_lt, ge_iff_le, Int.not_lt, Int.not_le] at h8
                            try (exfalso; omega)
                            all_goals (
                              refine WL.guard_yes rfl rfl ?_
                              refine WL.move rfl rfl ?_
                              refine WL.guard_yes rfl rfl ?_
                              refine WL.move rfl rfl ?_
                              refine WL.guard_yes rfl rfl ?_
                              obtain ⟨c, hc⟩ : ∃ c, bs[k]? = some c := ⟨_, List.getElem?_eq_getElem (by omega)⟩
                              have hct : I.cell? ⟨0, 0 + ((c.toNat : Nat) : Int).toNat * 1, none⟩ = some (.int .u8 (bI (isSp c))) := by simpa using hsp c
                              have hc128 : c.toNat < 128 := hasc c (List.mem_of_getElem? hc)
                              have hb1 := bI_rg (isSp c)
                              have hcs : s.data.toList[k]? = some c := by rw [← hbs]; exact hc
                              refine WL.byte rfl rfl tStr9_w rfl hcs ?_
                              refine WL.guard_yes rfl rfl ?_
                              refine WL.indexAddr_arr rfl rfl tAr139_w tS5_w rfl (by first | omega) ?_
                              refine WL.guard_yes rfl rfl ?_
                              refine WL.load_imm rfl tA5_w rfl (by first | exact hct) ?_
                              refine WL.guard_yes rfl rfl ?_
                              refine WL.arith rfl rfl rfl rfl ?_
                              refine WL.pick_true rfl rfl rfl ?_
                              refine WL.nil ?_
                              refine WE.midV () trivial ⟨congrArg (fun b => some (Value.bool b)) (by first | (rw [bI_ne, spAt_some hc]; done) | (rw [spAt_none (by omega)]; done)), trivial⟩ (by repeat (first | exact trivial | refine ⟨rfl, ?_⟩))
                            )
                          · try simp only [decide_eq_true_eq, decide_eq_false_iff_not, beq_iff_eq, bne_iff_ne, ne_eq, beq_eq_false_iff_ne, bne_eq_false_iff_eq, gt_iff_lt, ge_iff_le, Int.not_lt, Int.not_le] at h8
                            try (exfalso; omega)
                            all_goals (
                              refine WL.guard_no rfl rfl rfl rfl ?_
                              refine WL.guard_no rfl rfl rfl rfl ?_
                              refine WL.guard_no rfl rfl rfl rfl ?_
                              refine WL.guard_no rfl rfl rfl rfl ?_
                              refine WL.guard_no rfl rfl rfl rfl ?_
                              refine WL.guard_no rfl rfl rfl rfl ?_
                              refine WL.pick_false rfl rfl rfl ?_
                              refine WL.nil ?_
                              refine WE.midV () trivial ⟨congrArg (fun b => some (Value.bool b)) (by first | (rw [bI_ne, spAt_some hc]; done) | (rw [spAt_none (by omega)]; done)), trivial⟩ (by repeat (first | exact trivial | refine ⟨rfl, ?_⟩))
                            )
                        · refine WL.nil ?_
                          refine WE.then_normal ?_
                          refine WC.condT rfl (fun h9 => ?_) (fun h9 => ?_)
                          · try simp only [decide_eq_true_eq, decide_eq_false_iff_not, beq_iff_eq, bne_iff_ne, ne_eq, beq_eq_false_iff_ne, bne_eq_false_iff_eq, gt_iff_lt, ge_iff_le, Int.not_lt, Int.not_le] at h9
                            try (exfalso; omega)
                            all_goals (
                              refine WC.skip ?_
                              refine WE.then_normal ?_
                              refine WC.block ?_
                              refine WC.region ?_
                              refine WL.move rfl rfl ?_
                              first | refine WL.add rfl rfl (by omega) rfl ?_ | refine WL.arith rfl rfl rfl rfl ?_
                              refine WL.assign rfl rfl ?_
                              refine WL.nil ?_
                              refine WE.block_normal ?_
                              have hlt := spAt_lt ‹spAt bs k = true›
                              obtain ⟨c', hc'⟩ : ∃ c, bs[k]? = some c := ⟨_, List.getElem?_eq_getElem hlt⟩
                              have hsc' : isSp c' = true := by rw [← spAt_some hc']; assumption
                              refine WE.backV (k + 1) (⟨by omega, by omega, by rw [hfk, drop_at hc', fieldsG_sp0 hsc']⟩) (by omega) ⟨rfl, trivial⟩ (by repeat (first | exact trivial | refine ⟨rfl, ?_⟩))
                            )
                          · try simp only [decide_eq_true_eq, decide_eq_false_iff_not, beq_iff_eq, bne_iff_ne, ne_eq, beq_eq_false_iff_ne, bne_eq_false_iff_eq, gt_iff_lt, ge_iff_le, Int.not_lt, Int.not_le] at h9
                            try (exfalso; omega)
                            all_goals (
                              refine WC.exit ?_
                              refine WE.then_exit ?_
                              refine WE.then_exit ?_
                              refine WE.block_exit ?_
                              refine WE.then_normal ?_
                              refine WC.region ?_
                              have hsk : spAt bs k = false := by assumption
                              refine WL.move rfl rfl ?_
                              refine WL.assign rfl rfl ?_
                              refine WL.nil ?_
                              refine WE.block_normal ?_
                              refine WE.backG (dn ++ [seg bs fs i], k, k) (⟨by simp only; omega, by simp only; omega, by simp only; rw [hf, drop_at hc, fieldsG_sp hsc hsne, List.reverse_reverse, hfk, seg_self]; simp, fun _ => hsk⟩) (by simp only; omega) ⟨congrArg (fun z => some (Value.int .i64 z)) (by simp), rfl, rfl, trivial⟩ (by repeat (first | exact trivial | refine ⟨rfl, ?_⟩)) (rfl) (by rw [pieces_step hbs hdn])
                            )
                      )
                  )
                · try simp only [decide_eq_true_eq, decide_eq_false_iff_not, beq_iff_eq, bne_iff_ne, ne_eq, beq_eq_false_iff_ne, bne_eq_false_iff_eq, gt_iff_lt, ge_iff_le, Int.not_lt, Int.not_le] at h6
                  try (exfalso; omega)
                  all_goals (
                    refine WC.exit ?_
                    refine WE.then_exit ?_
                    refine WE.then_exit ?_
                    refine WE.block_exit ?_
                    refine WE.then_normal ?_
                    refine WC.seq ?_
                    refine WC.seq ?_
                    refine WC.region ?_
                    obtain rfl : i = bs.length := by omega
                    refine WL.move rfl rfl ?_
                    refine WL.move rfl rfl ?_
                    refine WL.len_string rfl tStr9_w rfl ?_
                    refine WL.arith rfl rfl rfl rfl ?_
                    refine WL.nil ?_
                    refine WE.then_normal ?_
                    refine WC.condT rfl (fun h10 => ?_) (fun h10 => ?_)
                    · try simp only [decide_eq_true_eq, decide_eq_false_iff_not, beq_iff_eq, bne_iff_ne, ne_eq, beq_eq_false_iff_ne, bne_eq_false_iff_eq, gt_iff_lt, ge_iff_le, Int.not_lt, Int.not_le] at h10
                      try (exfalso; omega)
                      all_goals (
                        refine WC.region ?_
                        have hfl : fs < bs.length := by omega
                        have hdn : dn.length < n := by have := congrArg List.length hf; rw [List.length_append] at this; rw [fieldsG_end hfl] at this; simp only [List.length_singleton] at this; unfold fieldsS at hnn; omega
                        refine WL.move rfl rfl ?_
                        refine WL.move rfl rfl ?_
                        refine WL.move rfl rfl ?_
                        refine WL.move rfl rfl ?_
                        refine WL.str_lo rfl rfl tStr9_w rfl (by first | omega) ?_
                        refine WL.indexAddr rfl rfl tE132_w tS9_w rfl (by first | omega) ?_
                        refine WL.store_at 0 rfl rfl rfl rfl tS9_w rfl rfl (by rw [pieces_len hdl]; simp; omega) rfl ?_
                        refine WL.nil ?_
                        refine WE.then_normal ?_
                        refine WC.seq ?_
                        refine WC.region ?_
                        rw [pieces_last hbs hdn]
                        have hall : fieldsG bs [] = dn ++ [seg bs fs bs.length] := by rw [hf, fieldsG_end hfl]
                        refine WL.move rfl rfl ?_
                        refine WL.assign rfl rfl ?_
                        refine WL.nil ?_
                        refine WE.then_normal ?_
                        refine WC.ret ?_
                        refine WE.freezeB (fun I1 hI1 hb1 => ?_)
                        refine WE.retR [2] rfl rfl rfl ?_
                        refine ⟨hI1, ?_⟩
                        have hnn2 : n = (fieldsG bs []).length := hnn
                        rw [congrArg List.length hall] at hnn2
                        rw [pieces_all hnn2.symm] at hb1
                        have := cells_str hb1
                        rw [← hall] at this
                        exact ⟨_, n, by rw [hnn]; rfl, by have := fieldsS_le bs; omega, by rw [hnn]; exact Nat.le_refl _, this⟩
                      )
                    · try simp only [decide_eq_true_eq, decide_eq_false_iff_not, beq_iff_eq, bne_iff_ne, ne_eq, beq_eq_false_iff_ne, bne_eq_false_iff_eq, gt_iff_lt, ge_iff_le, Int.not_lt, Int.not_le] at h10
                      try (exfalso; omega)
                      all_goals (
                        refine WC.skip ?_
                        refine WE.then_normal ?_
                        refine WC.seq ?_
                        refine WC.region ?_
                        obtain rfl : fs = bs.length := by omega
                        have hall : fieldsG bs [] = dn := by rw [hf, List.drop_length, seg_self]; simp [fieldsG]
                        refine WL.move rfl rfl ?_
                        refine WL.assign rfl rfl ?_
                        refine WL.nil ?_
                        refine WE.then_normal ?_
                        refine WC.ret ?_
                        refine WE.freezeB (fun I1 hI1 hb1 => ?_)
                        refine WE.retR [2] rfl rfl rfl ?_
                        refine ⟨hI1, ?_⟩
                        have hnn2 : n = (fieldsG bs []).length := hnn
                        rw [congrArg List.length hall] at hnn2
                        rw [pieces_all hnn2.symm] at hb1
                        have := cells_str hb1
                        rw [← hall] at this
                        exact ⟨_, n, by rw [hnn]; rfl, by have := fieldsS_le bs; omega, by rw [hnn]; exact Nat.le_refl _, this⟩
                      )
                  )
              )
        )
    )
theorem words_spec (I : Mem) (hsp : SpTab 0 I) : SpecR Tryd.prog 86 [] I (fun v I' => I.le I' ∧ SlV StrR 1 I' wordL v) := by
  refine SpecR.intro Tryd.func86 rfl rfl fun w0 => ?_
  show WC _ _ _ _ [] [] _ _ _
  refine WC.seq ?_
  refine WC.region ?_
  refine WL.assign rfl rfl ?_
  refine WL.nil ?_
  refine WE.then_normal ?_
  refine WC.seq ?_
  refine WC.region ?_
  refine WL.callR okF89_w rfl rfl (fieldsF_spec _ I hsp opText_small opText_len) (fun v I1 hI1 hv => ?_)
  refine WL.assign rfl rfl ?_
  refine WL.nil ?_
  refine WE.then_normal ?_
  refine WC.ret ?_
  refine WE.retR [0] rfl rfl rfl ?_
  exact hv
theorem word_spec (op : Int) (I : Mem) (hsp : SpTab 0 I) (h0 : 0 ≤ op) : SpecV Tryd.prog 73 [.int .u8 op] I (.string (wordS op)) := by
  refine SpecV.intro Tryd.func73 rfl rfl fun w0 => ?_
  show WC _ _ _ _ [] [(0, _)] _ _ _
  refine WC.seq ?_
  refine WC.region ?_
  refine WL.assign rfl rfl ?_
  refine WL.nil ?_
  refine WE.then_normal ?_
  refine WC.seq ?_
  refine WC.seq ?_
  refine WC.region ?_
  refine WL.move rfl rfl ?_
  refine WL.arith rfl rfl rfl rfl ?_
  refine WL.move rfl rfl ?_
  refine WL.split 5 rfl (fun h1 => ?_) (fun h1 => ?_)
  · try simp only [decide_eq_true_eq, decide_eq_false_iff_not, gt_iff_lt, Int.not_lt] at h1
    all_goals (
      refine WL.guard_no rfl rfl rfl rfl ?_
      refine WL.guard_no rfl rfl rfl rfl ?_
      refine WL.pick_true rfl rfl rfl ?_
      refine WL.nil ?_
      refine WE.then_normal ?_
      refine WC.cond_true rfl ?_
      refine WC.seq ?_
      refine WC.region ?_
      refine WL.assign rfl rfl ?_
      refine WL.nil ?_
      refine WE.then_normal ?_
      refine WC.ret ?_
      refine WE.then_ret ?_
      refine WE.retV [2] rfl rfl rfl ?_
      first | (rw [wordS, if_neg (by omega)]; rfl) | (show strV _ = _; rw [wordS, if_pos (by omega), List.getD_eq_getElem?_getD, hx]; rfl)
    )
  · try simp only [decide_eq_true_eq, decide_eq_false_iff_not, gt_iff_lt, Int.not_lt] at h1
    all_goals (
      refine WL.guard_yes rfl rfl ?_
      refine WL.move rfl rfl ?_
      refine WL.guard_yes rfl rfl ?_
      refine WL.arith rfl rfl rfl rfl ?_
      refine WL.pick_false rfl rfl rfl ?_
      refine WL.nil ?_
      refine WE.then_normal ?_
      refine WC.condT rfl (fun h2 => ?_) (fun h2 => ?_)
      · try simp only [decide_eq_true_eq, decide_eq_false_iff_not, gt_iff_lt, Int.not_lt] at h2
        all_goals (
          refine WC.seq ?_
          refine WC.region ?_
          refine WL.assign rfl rfl ?_
          refine WL.nil ?_
          refine WE.then_normal ?_
          refine WC.ret ?_
          refine WE.then_ret ?_
          refine WE.retV [2] rfl rfl rfl ?_
          first | (rw [wordS, if_neg (by omega)]; rfl) | (show strV _ = _; rw [wordS, if_pos (by omega), List.getD_eq_getElem?_getD, hx]; rfl)
        )
      · try simp only [decide_eq_true_eq, decide_eq_false_iff_not, gt_iff_lt, Int.not_lt] at h2
        all_goals (
          refine WC.skip ?_
          refine WE.then_normal ?_
          refine WC.seq ?_
          refine WC.region ?_
          refine WL.callR okF86_w rfl rfl (words_spec I hsp) (fun v I1 hI1 hv => ?_)
          obtain ⟨hI2, A, cap, rfl, hm, hcap, hS⟩ := hv
          obtain ⟨x, hx⟩ : ∃ x, wordL[(op - 1).toNat]? = some x := ⟨_, List.getElem?_eq_getElem (by rw [wordL_len]; omega)⟩
          obtain ⟨b, off, us, rfl, hul, hrow, rfl⟩ := hS (op - 1).toNat x hx
          refine WL.move rfl rfl ?_
          refine WL.arith rfl rfl (by simp only [Fw.arith]; rw [IntWalk.u8_in _ (by omega)]) rfl ?_
          refine WL.indexAddr rfl rfl tE132_w tS9_w rfl (by first | omega | exact by rw [wordL_len]; omega) ?_
          refine WL.load_imm rfl tA9_w rfl (hrow 0 _ rfl) ?_
          refine WL.assign rfl rfl ?_
          refine WL.nil ?_
          refine WE.then_normal ?_
          refine WC.ret ?_
          refine WE.retV [2] rfl rfl rfl ?_
          first | (rw [wordS, if_neg (by omega)]; rfl) | (show strV _ = _; rw [wordS, if_pos (by omega), List.getD_eq_getElem?_getD, hx]; rfl)
        )
    )
end Go.Proofs.YtddkkmdbolgnlaaDoor.Fw
