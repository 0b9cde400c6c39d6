/- A part of the proof: steps of the walk and laws that the claim's theorem rests on; each lemma states its own conditions. -/
import Derived.Test.YtddkkmdbolgnlaaDoorWalkF
import Derived.ChangeSame
import Derived.OpenShut
import Derived.WideKeyArgs
set_option linter.unusedVariables false
set_option linter.unusedSimpArgs false
namespace Go.Proofs.YtddkkmdbolgnlaaDoor.Fw
theorem SrcO.mono {I J : Mem} {C : Chunk} {A : Option Addr} {cs : List Value} (h : SrcO I C A cs) (hIJ : I.le J) : SrcO J C A cs := by
  rcases h with ⟨b, off, h1, h2⟩ | h | h
  · exact .inl ⟨b, off, h1, Mem.le.row hIJ h2⟩
  · exact .inr (.inl h)
  · exact .inr (.inr h)
theorem take_snoc {α : Type} {l : List α} {j : Nat} {x : α} (h : l[j]? = some x) : l.take (j + 1) = l.take j ++ [x] := by
  rw [List.take_add_one, h]; rfl
theorem badBoxes_len {ls : List ShapeD} {words : Int} {bs : List BoxD} : ∀ {last : Int}, badBoxes ls words bs last = false → bs = [] ∨ last + bs.length < words := by
  induction bs with
  | nil => intro last _; exact .inl rfl
  | cons x r ih =>
    intro last h
    unfold badBoxes at h
    split at h
    · cases h
    · rename_i hx
      have hx1 : last < x.at_ ∧ x.at_ < words := by
        simp only [badBox, Bool.or_eq_true, decide_eq_true_eq, not_or] at hx
        omega
      have : badBoxes ls words r x.at_ = false := by
        split at h
        · exact h
        · split at h
          · cases h
          · exact h
      rcases ih this with rfl | h2
      · right; simp; omega
      · right; simp; omega
theorem boxes16 {ls : List ShapeD} (h : mayShapes ls = true) {s : ShapeD} (hs : s ∈ ls) : s.boxes.length ≤ 17 := by
  simp only [mayShapes, Bool.and_eq_true, Bool.not_eq_true', List.any_eq_false] at h
  have := h.2 s hs
  simp only [badShape, Bool.or_eq_true, not_or, Bool.not_eq_true, decide_eq_false_iff_not, decide_eq_true_eq] at this
  rcases badBoxes_len this.1.1.1 with h1 | h1
  · rw [h1]; simp
  · omega
end Go.Proofs.YtddkkmdbolgnlaaDoor.Fw

namespace Go.Proofs.YtddkkmdbolgnlaaDoor.Fw
section
variable {P : Program} {ops : Array Oper} {Q : Exit → Act → World → Prop} {rest : List Oper} {n : Nat} {ds : List Deferred} {l : List (Nat × Value)} {Γ : Env} {I : Mem} {L L' : List Chunk}
variable {d : Nat} {t : TypeId} {pos : String} {af : Array Edge}
/-- 'copy(dst, src)' of numbers, all of them, into a row of one's own. -/
theorem WL.copy_sl (k j : Nat) {T T2 E ty : TypeId} {x y : Operand} {b m kw cap : Nat} {A : Option Addr} {c cs : List Value} {C : Chunk} {E' : TypeId} (hx : ev l x = some (.slice (some ⟨b, 0, none⟩) m cap)) (hy : ev l y = some (.slice A m kw)) (hT : sliceT P T = some E) (hs : szT P E = some 1)
    (hk : nth L k = some [(b, .cells c.toArray E' (0, 0))]) (hj : nth L j = some C) (hC : SlO 1 cs A kw C) (hcl : c.length = m) (hcs : cs.length = m) (hone : cs.all one1 = true) (hd : Nat.ble (d + 1) n = true) (hL : setO L k [(b, .cells cs.toArray E' (0, 0))] = some L')
    (h : WL .seq P ops Q rest n ds ((d, .int .i64 m) :: l) Γ I L') : WL .seq P ops Q (⟨some d, .call { callee := .builtin .copy, args := [x, y].toArray, argTypes := [T, T2].toArray }, ty, pos, af, none⟩ :: rest) n ds l Γ I L :=
  WL.opx (T := fun v I1 L1 => v = .int .i64 m ∧ I1 = I ∧ L1 = L') hd (fun a w hf hst => by
    unfold sliceT at hT
    split at hT
    case h_2 => simp at hT
    rename_i e hu
    injection hT with hT; subst hT
    have hset : setsL c 0 cs = cs := by unfold setsL; simp [hcl, hcs]
    obtain ⟨w', hr, hs'⟩ := hst.storeRow (P := P) (off := 0) (vs := cs) (L' := L') hk (fun v hv => List.all_eq_true.1 hone v hv) (by omega) (by rw [hset]; exact hL)
    rcases hC with ⟨rfl, rfl, rfl, rfl⟩ | ⟨b2, pad, E2, rfl, rfl, hpad, _⟩
    · have hm : m = 0 := by simpa using hcs.symm
      subst hm
      have hw : w' = w := by simp [storeCells] at hr; exact hr.symm
      subst hw
      refine ⟨.int .i64 (0 : Nat), w', I, L', ?_, hs', rfl, rfl, rfl⟩
      simp only [execOp, resolve, invoke, builtin, List.map_toArray, List.map_cons, List.map_nil, hf.ev hx, hf.ev hy]
      simp [Builtin.copy_, run_underlying hu, Builtin.lenOf, Builtin.firstCells, run_sizeOf hs, storeCells, goInt]
    · have h2 : (Builtin.firstCells 1 m (.slice (some ⟨b2, 0, none⟩) m kw)).run P w = .ok cs.toArray w := run_firstCells_some w _ _ _ _ _ cs (by omega) (fun j' v hv => by
        rw [add_at]
        exact hst.cell_own (by rw [← nth_eq]; exact hj) (by
          have := (List.getElem?_eq_some_iff.1 hv).1
          simpa [List.getElem?_append_left this] using hv))
      refine ⟨.int .i64 m, w', I, L', ?_, hs', rfl, rfl, rfl⟩
      simp only [execOp, resolve, invoke, builtin, List.map_toArray, List.map_cons, List.map_nil, hf.ev hx, hf.ev hy]
      simp [Builtin.copy_, run_underlying hu, Builtin.lenOf, run_sizeOf hs, h2, hr, goInt])
    (fun v I1 L1 ⟨h1, h2, h3⟩ => by subst h1; subst h2; subst h3; exact h)
theorem cellsO_agg (vs : List Value) : cellsO (.agg vs.toArray) = some vs := by
  show allO vs = some vs
  induction vs with
  | nil => rfl
  | cons x r ih => simp only [allO, ih]
theorem takeO_all {α : Type} (l : List α) : takeO l.length l = some l := by
  induction l with
  | nil => rfl
  | cons x r ih => simp only [List.length_cons, takeO, ih]
/-- A store of all that a block holds. -/
theorem WL.store_full (k : Nat) {T : TypeId} {x y : Operand} {b m : Nat} {c : List Value} {E : TypeId} {vs : List Value} (hx : ev l x = some (.pointer (some ⟨b, 0, none⟩))) (hy : ev l y = some (.agg vs.toArray)) (hk : nth L k = some [(b, .cells c.toArray E (0, 0))])
    (hm : szT P T = some m) (hl : vs.length = m) (hone : vs.all one1 = true) (hc : c.length = m)
    (hL : setO L k [(b, .cells vs.toArray E (0, 0))] = some L') (h : WL .seq P ops Q rest n ds l Γ I L') : WL .seq P ops Q (⟨none, .store T x y, t, pos, af, none⟩ :: rest) n ds l Γ I L :=
  WL.store_at k hx hy hk (cellsO_agg vs) hm (by rw [Nat.beq_eq]; exact hl) hone (by omega) (by
    have : setsL c 0 vs = vs := by unfold setsL; simp [hl, hc]
    rw [this]; exact hL) h
end
theorem mcs4 {x : MV} {v : Value} (hr : x.regs.length = 16) : setsL (mc x) 4 [v] = mc { x with hp := v } := by rw [mcs_lo (by omega) hr]; rfl
theorem mc_take {x : MV} (hr : x.regs.length = 16) : takeO 33 (dropN 0 (mc x)) = some (mc x) := by
  have := takeO_all (mc x)
  rw [mc_len hr] at this
  exact this
theorem mc_one {x : MV} (hr : x.regs.all one1 = true) (h1 : one1 x.v1 = true) (h2 : one1 x.v2 = true) (h3 : one1 x.v3 = true) (h4 : [x.main, x.hp, x.wv, x.at_, x.fn, x.frame, x.cv, x.iv, x.kind, x.ans, x.trap, x.why, x.pv, x.steps].all one1 = true) : (mc x).all one1 = true := by
  simp only [List.all_cons, List.all_nil, Bool.and_true, Bool.and_eq_true] at h4
  unfold mc
  simp only [List.all_append, List.all_cons, List.all_nil, Bool.and_true, Bool.and_eq_true, hr, h1, h2, h3]
  simp only [h4, and_true, true_and]
theorem slV_one {α : Type} {R : Mem → α → List Value → Prop} {sz : Nat} {I : Mem} {xs : List α} {v : Value} (h : SlV R sz I xs v) : one1 v = true := by
  obtain ⟨A, cap, rfl, _⟩ := h; rfl
theorem mvOf_one {I : Mem} {c : CodeD} {h : MH} {m : MachD} (hc : CodeC I c h.v1 h.v2 h.v3) : (mc (mvOf h c.main m)).all one1 = true :=
  mc_one (by show (ints m.regs).all one1 = true; exact ints_one _) (slV_one hc.s1) (slV_one hc.s2) (slV_one hc.s3) rfl
theorem MC5.mono {I J : Mem} {c : CodeD} {h : MH} {m : MachD} {Cw Cc Cp : Chunk} (hM : MC5 I c h m Cw Cc Cp) (hIJ : I.le J) : MC5 J c h m Cw Cc Cp :=
  ⟨hM.code.mono hIJ, hM.words, hM.calls, hM.printed, hM.input.mono hIJ, hM.inNil, hM.inLen⟩
theorem MC.mono {I J : Mem} {c : CodeD} {m : MachD} {bm Em Eh : Nat} {C : Chunk} (hM : MC I c m bm Em Eh C) (hIJ : I.le J) : MC J c m bm Em Eh C := by
  obtain ⟨h, Cw, Cc, Cp, h5, e⟩ := hM
  exact ⟨h, Cw, Cc, Cp, h5.mono hIJ, e⟩
theorem zeros_int (m : Nat) : (zerosL [Value.int .i64 0] m).length = m := by rw [zerosL_int, ints_len, List.length_replicate]
theorem SlO.full {cs : List Value} {b m E : Nat} (h : cs.length = m) (h63 : m ≤ 9223372036854775807) : SlO 1 cs (some ⟨b, 0, none⟩) m [(b, .cells cs.toArray E (0, 0))] :=
  .inr ⟨b, [], E, rfl, by simp, by simp [h], h63⟩
theorem SlO.nil_callLen {l : List (Int × Int × Int)} {A : Option Addr} {cap : Nat} {C : Chunk} (h : SlO 3 (callCells l) A cap C) (hA : A = none) : l.length = 0 := by
  rcases h with ⟨_, h2, _, _⟩ | ⟨b, _, _, h1, _⟩
  · have := congrArg List.length h2
    rw [callCells_len] at this
    simp only [List.length_nil] at this
    omega
  · rw [hA] at h1; cases h1
theorem St.part6 {Γ : Env} {I : Mem} {A B C D E F : Chunk} {L : List Chunk} {w : World} (h : St Γ I ((A ++ (B ++ (C ++ (D ++ (E ++ F))))) :: L) w) : St Γ I (A :: B :: C :: D :: E :: F :: L) w := ⟨h.ext, by simpa using h.own⟩
theorem St.join2 {Γ : Env} {I : Mem} {A B : Chunk} {L : List Chunk} {w : World} (h : St Γ I (A :: B :: L) w) : St Γ I ((A ++ B) :: L) w := ⟨h.ext, by simpa using h.own⟩
end Go.Proofs.YtddkkmdbolgnlaaDoor.Fw

namespace Go.Proofs.YtddkkmdbolgnlaaDoor.Fw
theorem outV_eq (m : MachD) (A : Option Addr) (k : Nat) : outV m A k = .agg [.int .u8 m.kind, .int .i64 m.answer, .int .u8 m.trap, .int .u8 0, .slice A m.printed.length k].toArray := rfl
theorem RowA.at_ {I : Mem} {A : Option Addr} {l : List Int} (h : RowA I A (ints l)) {i : Nat} {v : Int} (hi : l[i]? = some v) : ∃ b, A = some ⟨b, 0, none⟩ ∧ I.cell? ⟨b, 0 + (i : Int).toNat * 1, none⟩ = some (.int .i64 v) := by
  rcases h with h | ⟨b, h1, h2⟩
  · have := congrArg List.length h
    rw [ints_len] at this
    have := (List.getElem?_eq_some_iff.1 hi).1
    simp only [List.length_nil] at *
    omega
  · refine ⟨b, h1, ?_⟩
    rw [Int.toNat_natCast, Nat.mul_one]
    exact h2 i _ (by simp [ints, hi])
def sevenC : CodeD := ⟨[], [⟨0, 1, 0⟩], [⟨1, 0, 0, 0, 7⟩, ⟨2, 1, 0, 0, 0⟩, ⟨5, 0, 1, 0, 0⟩, ⟨1, 0, 0, 0, 5⟩, ⟨25, 0, 0, 0, 0⟩, ⟨21, 0, 0, 0, 0⟩], 0⟩
theorem seven_may : mayC sevenC = true := by decide +kernel
def seven0 : MachD := newM sevenC []
def seven4 : MachD := newM sevenC [4]
theorem seven_k : (runM sevenC 100 seven0).kind = 2 := by decide +kernel
theorem seven_a : (runM sevenC 100 seven0).answer = 7 := by decide +kernel
theorem seven_t : (runM sevenC 100 seven0).trap = 0 := by decide +kernel
theorem seven_p : (runM sevenC 100 seven0).printed = [5] := by decide +kernel
theorem seven3_k : (runM sevenC 3 seven4).kind = 1 := by decide +kernel
theorem seven3_at : (runM sevenC 3 seven4).at_ = 3 := by decide +kernel
theorem seven3_w : wordM (runM sevenC 3 seven4).words 373 = 7 := by decide +kernel
theorem seven3_r : (runM sevenC 3 seven4).regs.getD 0 0 = 7 := by decide +kernel
theorem seven3_c : (runM sevenC 3 seven4).calls.length = 0 := by decide +kernel
theorem seven3_s : (runM sevenC 3 seven4).steps = 3 := by decide +kernel
theorem seven3_i : (runM sevenC 3 seven4).input.length = 1 := by decide +kernel
theorem seven3_100 : (runM sevenC 100 (runM sevenC 3 seven4)).kind = 2 := by decide +kernel
theorem slV_nil {α : Type} {R : Mem → α → List Value → Prop} {sz : Nat} {I : Mem} : SlV R sz I ([] : List α) (.slice none 0 0) := ⟨none, 0, rfl, by simp, Nat.le_refl _, fun i x h => by simp at h⟩
theorem slV_lit {α : Type} {R : Mem → α → List Value → Prop} {sz : Nat} {I : Mem} {xs : List α} {b : Nat} {E : TypeId} {fz : Nat × Nat} (vss : List (List Value)) (h : Fw.Rows R sz I xs vss) (hsz : 0 < sz) (hl : xs.length ≤ 9223372036854775807) (hb : I b = some (.cells vss.flatten.toArray E fz)) : SlV R sz I xs (.slice (some ⟨b, 0, none⟩) xs.length xs.length) :=
  ⟨_, _, rfl, hl, Nat.le_refl _, h.slAtA hsz (.inr ⟨b, rfl, Mem.row_of hb⟩)⟩
theorem rows_one {α : Type} {R : Mem → α → List Value → Prop} {sz : Nat} {I : Mem} (f : α → List Value) (xs : List α) (h : ∀ x ∈ xs, (f x).length = sz ∧ R I x (f x)) : Fw.Rows R sz I xs (xs.map f) :=
  ⟨by simp, fun vs hv => by obtain ⟨x, hx, rfl⟩ := List.mem_map.1 hv; exact (h x hx).1, fun i x vs h1 h2 => by
    rw [List.getElem?_map, h1] at h2
    simp only [Option.map_some, Option.some.injEq] at h2
    subst h2
    exact (h x (List.mem_of_getElem? h1)).2⟩
def fnRow (x : FnD) : List Value := [.int .i64 x.begin_, .int .i64 x.words, .int .i64 x.params]
def insRow (x : InstrD) : List Value := [.int .u8 x.op, .int .i64 x.r, .int .i64 x.a, .int .i64 x.b, .int .i64 x.n]
theorem seven_codeC {I : Mem} {b1 b2 : Nat} {E1 E2 : TypeId} {z1 z2 : Nat × Nat} (h1 : I b1 = some (.cells (sevenC.fns.map fnRow).flatten.toArray E1 z1)) (h2 : I b2 = some (.cells (sevenC.list.map insRow).flatten.toArray E2 z2)) :
    CodeC I sevenC (.slice none 0 0) (.slice (some ⟨b1, 0, none⟩) 1 1) (.slice (some ⟨b2, 0, none⟩) 6 6) :=
  ⟨slV_nil, slV_lit _ (rows_one fnRow _ (fun x hx => by
      simp only [sevenC, List.mem_singleton] at hx
      subst hx
      exact ⟨rfl, rfl, by unfold Rg; simp, by unfold Rg; simp, by unfold Rg; simp⟩)) (by omega) (by simp [sevenC]) h1,
   slV_lit _ (rows_one insRow _ (fun x hx => by
      simp only [sevenC, List.mem_cons, List.not_mem_nil, or_false] at hx
      rcases hx with rfl | rfl | rfl | rfl | rfl | rfl <;> exact ⟨rfl, rfl, by simp, by unfold Rg; simp, by unfold Rg; simp, by unfold Rg; simp, by unfold Rg; simp⟩)) (by omega) (by simp [sevenC]) h2,
   by unfold Rg sevenC; simp⟩
theorem clampN (a : Int) : ∃ k : Nat, (if (0 : Int) < (if (600 : Int) < a then 600 else a) then (if (600 : Int) < a then 600 else a) else 0) = (k : Int) ∧ k ≤ 600 := by
  refine ⟨(if (0 : Int) < (if (600 : Int) < a then 600 else a) then (if (600 : Int) < a then 600 else a) else 0).toNat, ?_, ?_⟩ <;> (repeat' split) <;> omega
theorem counts_at {h : List ArD} (hw : WFh h) {i : Nat} (hi : i < 5) : ∃ q : Int, (countsL h)[i]? = some (.int .i64 q) ∧ 0 ≤ q ∧ q ≤ 12 := by
  obtain ⟨a, ha⟩ : ∃ a, h[i]? = some a := ⟨_, List.getElem?_eq_getElem (by rw [hw.len]; exact hi)⟩
  have h1 := pop_le _ (hw.ok a (List.mem_of_getElem? ha)).1
  exact ⟨pop a.taken, by simp [countsL, ha], by omega, by omega⟩
theorem counts_row {I : Mem} {A : Option Addr} {h : List ArD} (hw : WFh h) (hr : RowA I A (countsL h)) : ∃ b, A = some ⟨b, 0, none⟩ ∧ I.row b 0 (countsL h) := by
  rcases hr with hr | h1
  · have := congrArg List.length hr
    simp [countsL, hw.len] at this
  · exact h1
end Go.Proofs.YtddkkmdbolgnlaaDoor.Fw

namespace Go.Proofs.YtddkkmdbolgnlaaDoor.Fw
/-- A field of one cell: its place. -/
def fld1T (P : Program) (t : TypeId) (i : Nat) : Option Nat := match fieldT P t i with
  | some f => if aggT P f.type = some false then some f.offset else none
  | none => none
section
variable {mo : Md} {P : Program} {ops : Array Oper} {Q : Exit → Act → World → Prop} {rest : List Oper} {n : Nat} {ds : List Deferred} {l : List (Nat × Value)} {Γ : Env} {I : Mem} {L : List Chunk}
variable {d : Nat} {t : TypeId} {pos : String} {af : Array Edge}
theorem WL.field1 {T : TypeId} {x : Operand} {i o : Nat} {vs : List Value} {v : Value} (hx : ev l x = some (.agg vs.toArray)) (ho : fld1T P T i = some o) (hv : nth vs o = some v) (hd : Nat.ble (d + 1) n = true)
    (h : WL mo P ops Q rest n ds ((d, v) :: l) Γ I L) : WL mo P ops Q (⟨some d, .field T x i, t, pos, af, none⟩ :: rest) n ds l Γ I L :=
  WL.val hd (fun a w hf _ => by
    simp only [execOp, hf.ev hx]
    refine run_v ?_
    unfold fld1T at ho
    split at ho
    · rename_i f hfT
      split at ho
      · rename_i hag
        injection ho with ho
        unfold fieldT at hfT
        split at hfT
        · rename_i fs hu
          unfold Instr.field
          rw [run_bind, run_underlying hu]
          simp only [hfT]
          show Sem.run P (part f.type vs.toArray f.offset) w = _
          unfold part
          rw [run_bind, run_isAgg hag]
          rw [nth_eq] at hv
          subst ho
          simp [hv]
        · simp at hfT
      · cases ho
    · cases ho) h
end
theorem seven_out (A : Option Addr) (k : Nat) : outV (runM sevenC 100 (newM sevenC [])) A k = .agg [.int .u8 2, .int .i64 7, .int .u8 0, .int .u8 0, .slice A 1 k].toArray := by
  have h1 := seven_k; have h2 := seven_a; have h3 := seven_t; have h4 := seven_p
  unfold seven0 at h1 h2 h3 h4
  rw [outV_eq, h1, h2, h3, h4]
  rfl
theorem seven4_wf : WFm sevenC seven4 := newM_wf (MayW.of seven_may) (fun r hr => by
  simp only [List.mem_singleton] at hr
  subst hr; unfold Rg; omega) (by simp)
theorem St.part2 {Γ : Env} {I : Mem} {A B : Chunk} {L : List Chunk} {w : World} (h : St Γ I ((A ++ B) :: L) w) : St Γ I (A :: B :: L) w := ⟨h.ext, by simpa using h.own⟩
end Go.Proofs.YtddkkmdbolgnlaaDoor.Fw

namespace Go.Proofs.YtddkkmdbolgnlaaDoor.Fw
theorem wf_i64 {n : Int} (h : (Lit.int .i64 n).wf = true) : Rg n := by
  simp only [Lit.wf, Bool.and_eq_true, decide_eq_true_eq] at h
  have h1 : IntKind.i64.min = -9223372036854775808 := by decide
  have h2 : IntKind.i64.max = 9223372036854775807 := by decide
  unfold Rg; omega
theorem wf_u8 {n : Int} (h : (Lit.int .u8 n).wf = true) : 0 ≤ n ∧ n ≤ 255 := by
  simp only [Lit.wf, Bool.and_eq_true, decide_eq_true_eq] at h
  have h1 : IntKind.u8.min = 0 := by decide
  have h2 : IntKind.u8.max = 255 := by decide
  omega
theorem choose_list {α : Type} {p : Nat → α → Prop} (n : Nat) (h : ∀ i, i < n → ∃ a, p i a) : ∃ xs : List α, xs.length = n ∧ ∀ i a, xs[i]? = some a → p i a := by
  induction n with
  | zero => exact ⟨[], rfl, fun i a e => by simp at e⟩
  | succ n ih =>
    obtain ⟨xs, h1, h2⟩ := ih fun i hi => h i (by omega)
    obtain ⟨a, ha⟩ := h n (by omega)
    refine ⟨xs ++ [a], by simp [h1], fun i b hb => ?_⟩
    rcases Nat.lt_or_ge i xs.length with hlt | hge
    · rw [List.getElem?_append_left hlt] at hb; exact h2 i b hb
    · rw [List.getElem?_append_right hge] at hb
      cases hq : i - xs.length with
      | zero => rw [hq] at hb; simp at hb; subst hb; have : i = n := by omega
                subst this; exact ha
      | succ q => rw [hq] at hb; simp at hb
theorem cell_spot {w : World} {a : Addr} {v : Value} (h : w.cell? a = some v) : a.spot = none := by
  unfold World.cell? at h
  split at h
  · split at h
    · cases h
    · rename_i hs
      cases hq : a.spot with
      | none => rfl
      | some s => rw [hq] at hs; exact absurd rfl hs
  · cases h
theorem ints_flat (l : List Int) : (l.map (fun x => [Value.int .i64 x])).flatten = ints l := by
  induction l with
  | nil => rfl
  | cons x r ih => rw [List.map_cons, List.flatten_cons, ih]; rfl
section
variable {H : Type} {enc : TypeId × Value → H} {P : Program} {w : World} {base : Nat} {spare : Nat → Bool} {held : Bool}
/-- A slice read: its elements stay where they are. -/
theorem open_sl {α : Type} {R : Mem → α → List Value → Prop} {sz : Nat} {t e : TypeId} {fuel : Nat} {cs : List Value} {x : DataW H × List MemPlace} (ht : sliceT P t = some e) (hc : P.cellsOf e = sz) (hsz : 0 < sz)
    (hR : ∀ (n : Nat) (cs : List Value) (y : DataW H × List MemPlace), cs.length = sz → DataW.trod enc P w base spare held n e cs = some y → ∃ a, R (memOf w) a cs) (h : DataW.trod enc P w base spare held fuel t cs = some x) :
    ∃ v xs, cs = [v] ∧ SlV R sz (memOf w) xs v := by
  have hu : P.underlying t = some (.slice e) := by
    unfold sliceT at ht
    split at ht
    · rename_i e' hu; injection ht with ht; subst ht; exact hu
    · simp at ht
  rcases DataW.trod_slice hu h with ⟨rfl, _⟩ | ⟨a, len, cap, elems, rest, n, _, rfl, _, _, hl, hm, hlen, hel, _, _⟩
  · exact ⟨_, [], rfl, slV_nil⟩
  · obtain ⟨xs, hx1, hx2⟩ := choose_list (p := fun i y => ∃ cs', w.cells? base (a.add (i * sz)) sz = some cs' ∧ R (memOf w) y cs') len (fun i hi => by
      have h1 := hel i hi
      rw [hc, List.getElem?_eq_getElem (by omega)] at h1
      obtain ⟨cs', h2, h3⟩ := Option.bind_eq_some_iff.1 h1
      obtain ⟨y, hy⟩ := hR n cs' _ (World.cells?_some h2).2.1 h3
      exact ⟨y, cs', h2, hy⟩)
    unfold maxLen at hm
    refine ⟨_, xs, rfl, some a, cap, by rw [hx1], by omega, by omega, fun i y hy => ?_⟩
    obtain ⟨cs', h1, h2⟩ := hx2 i y hy
    obtain ⟨_, h3, h4⟩ := World.cells?_some h1
    have h5 : a.spot = none := by
      have hlt : 0 < xs.length := by have := (List.getElem?_eq_some_iff.1 hy).1; omega
      obtain ⟨cs0, h6, _⟩ := hx2 0 _ (List.getElem?_eq_getElem hlt)
      obtain ⟨_, h7, h8⟩ := World.cells?_some h6
      have := h8 0 hsz
      rw [List.getElem?_eq_getElem (by omega), Nat.zero_mul] at this
      exact cell_spot (a := a) this
    obtain ⟨b, off, s⟩ := a
    simp only at h5
    subst h5
    refine ⟨b, off, cs', rfl, h3, fun j v hj => ?_, h2⟩
    have := h4 j (by have := (List.getElem?_eq_some_iff.1 hj).1; omega)
    rw [hj, add_at, add_at] at this
    exact this
/-- A struct's field: its type, its place. -/
def fk (P : Program) (t : TypeId) (i : Nat) : Option (TypeId × Nat) := (fieldT P t i).map fun f => (f.type, f.offset)
theorem open_field {t : TypeId} {fuel : Nat} {cs : List Value} {x : DataW H × List MemPlace} {i : Nat} {u : TypeId} {o : Nat} (hf : fk P t i = some (u, o)) (h : DataW.trod enc P w base spare held fuel t cs = some x) :
    ∃ n y, DataW.trod enc P w base spare held n u ((cs.drop o).take (P.cellsOf u)) = some y := by
  unfold fk at hf
  cases hq : fieldT P t i with
  | none => rw [hq] at hf; simp at hf
  | some f =>
    rw [hq] at hf
    simp only [Option.map_some, Option.some.injEq, Prod.mk.injEq] at hf
    obtain ⟨rfl, rfl⟩ := hf
    unfold fieldT at hq
    split at hq
    · rename_i fs hu
      obtain ⟨xs, n, _, _, _, hlen, hall⟩ := DataW.trod_struct hu h
      have := hall i f hq
      have hlt : i < fs.size := (Array.getElem?_eq_some_iff.1 hq).1
      rw [List.getElem?_eq_getElem (by omega)] at this
      exact ⟨n, _, this⟩
    · simp at hq
theorem open_fint {t : TypeId} {fuel : Nat} {cs : List Value} {x : DataW H × List MemPlace} {i : Nat} {u : TypeId} {o : Nat} {k : IntKind} (hf : fk P t i = some (u, o)) (hu : intT P u = some k) (hc : P.cellsOf u = 1) (h : DataW.trod enc P w base spare held fuel t cs = some x) :
    ∃ m, cs[o]? = some (.int k m) ∧ (Lit.int k m).wf = true := by
  obtain ⟨n, y, hy⟩ := open_field hf h
  have hu' : P.underlying u = some (.int k) := by
    unfold intT at hu
    split at hu
    · rename_i k' hk; injection hu with hu; subst hu; exact hk
    · simp at hu
  obtain ⟨m, h1, _, h3⟩ := DataW.trod_int hu' hy
  rw [hc] at h1
  refine ⟨m, ?_, h3⟩
  have := congrArg (·[0]?) h1
  simpa using this
theorem take1 {cs : List Value} {o : Nat} {v : Value} (h : (cs.drop o).take 1 = [v]) : cs[o]? = some v := by
  have := congrArg (·[0]?) h
  simpa using this
end
def IntR (_ : Mem) (x : Int) (vs : List Value) : Prop := vs = [.int .i64 x] ∧ Rg x
theorem slV_ints {I : Mem} {l : List Int} {v : Value} (h : SlV IntR 1 I l v) : ∃ A cap, v = .slice A l.length cap ∧ SrcO I [] A (ints l) ∧ (A = none → l = []) ∧ ∀ r ∈ l, Rg r := by
  obtain ⟨A, cap, hv, _, _, hS⟩ := h
  obtain ⟨vss, hr, hs, hn⟩ := hS.rows
  have e : vss = l.map (fun x => [Value.int .i64 x]) := List.ext_getElem? fun i => by
    rw [List.getElem?_map]
    cases hx : l[i]? with
    | none => rw [List.getElem?_eq_none (by rw [hr.len]; exact List.getElem?_eq_none_iff.1 hx)]; rfl
    | some x =>
      have hlt : i < vss.length := by rw [hr.len]; exact (List.getElem?_eq_some_iff.1 hx).1
      have := (hr.rel i x _ hx (List.getElem?_eq_getElem hlt)).1
      rw [List.getElem?_eq_getElem hlt, this]; rfl
  have e2 : vss.flatten = ints l := by
    rw [e]
    exact ints_flat l
  rw [e2] at hs
  refine ⟨A, cap, hv, hs, hn, fun r hm => ?_⟩
  obtain ⟨i, hi⟩ := List.mem_iff_getElem?.1 hm
  obtain ⟨_, _, _, _, _, _, hR⟩ := hS i r hi
  exact hR.2
/-- Arguments read again, where nothing that was there turned. -/
theorem trodAll_stays {H : Type} {enc : TypeId × Value → H} {P : Program} (hl : laidOutB P = true) {W W' : World} {sp : Nat → Bool} : ∀ {ts : List TypeId} {vs : List Value} {ds : List (DataW H)} {ps : List MemPlace},
    (∀ t ∈ ts, P.readableRec t = true ∧ t < P.types.size) → DataW.TrodAll enc P W 0 (fun _ => true) true ts vs ds ps → (∀ p ∈ ps, W.sameAt W' p) → (∀ p ∈ ps, sp p.block = true) → DataW.TrodAll enc P W' 0 sp true ts vs ds ps
  | [], [], [], _, _, h, _, _ => h
  | t :: ts, v :: vs, d :: ds, ps, hr, ⟨p, q, h1, h2, e⟩, h3, h4 => by
    subst e
    exact ⟨p, q, WideElems.Trod_stays hl (hr t (by simp)).1 (hr t (by simp)).2 h1 (fun x hx => h3 x (by simp [hx])) (fun x hx => h4 x (by simp [hx])),
      trodAll_stays hl (fun u hu => hr u (by simp [hu])) h2 (fun x hx => h3 x (by simp [hx])) (fun x hx => h4 x (by simp [hx])), rfl⟩
theorem Ext.below {w0 w : World} {I0 I : Mem} (h : Ext w0 I0 [] I w) : RowKit.Below w0.heap.size w0 w := ⟨h.os, h.tape, h.output, h.size, fun k hk => h.keep k hk (by simp)⟩
theorem Ext.frozen {w0 w : World} {I0 I : Mem} (h : Ext w0 I0 [] I w) {a : Addr} (ha : a.block < w0.heap.size) : w.frozen? a = w0.frozen? a := RowKit.Below.frozen h.below ha
end Go.Proofs.YtddkkmdbolgnlaaDoor.Fw

namespace Go.Proofs.YtddkkmdbolgnlaaDoor.Fw
theorem cells_slice {v : Value} {A B : Option Addr} {n k m j : Nat} (hv : v = .slice B m j) (h : v.cells.toList = [.slice A n k]) : v = .slice A n k := by
  subst hv
  simpa [Value.cells] using h
end Go.Proofs.YtddkkmdbolgnlaaDoor.Fw

