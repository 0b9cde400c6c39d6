/- A part of the proof: steps of the walk and laws that the claim's theorem rests on; each lemma states its own conditions. -/
import Derived.Test.YtddkkmdbolgnlaaDoorWalkE
import Derived.Defers
import Derived.Recover
set_option linter.unusedVariables false
set_option linter.unusedSimpArgs false
namespace Go.Proofs.YtddkkmdbolgnlaaDoor.Fw
def w64 (x : Int) : Int := IntKind.i64.wrap x
theorem w64_in {x : Int} (h : Rg x) : w64 x = x := IntWalk.i64_in _ h
theorem w64_rg (x : Int) : Rg (w64 x) := by
  unfold w64 Rg
  simp only [IntKind.wrap, IntKind.bits, IntKind.signed]
  simp
  split <;> omega
def boxesOf (c : CodeD) (s : Int) : List BoxD := match c.shapes[s.toNat]? with
  | some x => x.boxes
  | none => []
/-- What a drop leaves: words, heap; 'rec': the drop of what lies below. -/
def dropBs (rec : List Int → List ArD → Int → Int → Option (List Int × List ArD)) : List BoxD → List Int → List ArD → Int → Option (List Int × List ArD)
  | [], ws, h, _ => some (ws, h)
  | b :: r, ws, h, a =>
    if wordM ws (w64 (a + b.at_)) = 0 then dropBs rec r (setM ws (w64 (a + b.at_)) 0) h a
    else if 0 ≤ b.shp then
      match rec (setM ws (w64 (a + b.at_)) 0) h (wordM ws (w64 (a + b.at_))) b.shp with
      | some x => dropBs rec r x.1 (giveH x.2 (wordM ws (w64 (a + b.at_)))) a
      | none => none
    else dropBs rec r (setM ws (w64 (a + b.at_)) 0) (giveH h (wordM ws (w64 (a + b.at_)))) a
def dropF (c : CodeD) : Nat → List Int → List ArD → Int → Int → Option (List Int × List ArD)
  | 0, _, _, _, _ => none
  | n + 1, ws, h, a, s => dropBs (dropF c n) (boxesOf c s) ws h a
def nz (ws : List Int) : Nat := ws.countP (fun x => x != 0)
theorem nz_set {ws : List Int} {i : Nat} (v : Int) (h : ws[i]? = some v) : nz (ws.set i 0) + (if v = 0 then 0 else 1) = nz ws := by
  unfold nz
  induction ws generalizing i with
  | nil => simp at h
  | cons x r ih =>
    cases i with
    | zero =>
      simp at h; subst h
      rw [List.set_cons_zero, List.countP_cons, List.countP_cons]
      by_cases hx : x = 0
      · subst hx; simp
      · simp [hx]
    | succ i =>
      rw [List.set_cons_succ, List.countP_cons, List.countP_cons]
      have := ih (i := i) (by simpa using h)
      omega
theorem setM0_len (ws : List Int) (a : Int) : (setM ws a 0).length = ws.length := by
  unfold setM
  split
  · rfl
  · rw [if_neg (by omega)]; simp
theorem nz_setM (ws : List Int) (a : Int) (hl : ws.length ≤ 524661) : nz (setM ws a 0) + (if wordM ws a = 0 then 0 else 1) = nz ws := by
  by_cases h : a < 1 ∨ (ws.length : Int) ≤ a
  · rw [setM_no (by omega), wordM, if_pos h]; simp
  · obtain ⟨v, hv⟩ : ∃ v, ws[a.toNat]? = some v := ⟨_, List.getElem?_eq_getElem (by omega)⟩
    rw [← setM_in (by omega) (by omega) (by omega), wordM, if_neg h, List.getD_eq_getElem?_getD, hv, Option.getD_some]
    exact nz_set v hv
theorem setM_rg {ws : List Int} {a v : Int} (hw : ∀ r ∈ ws, Rg r) (hv : Rg v) : ∀ r ∈ setM ws a v, Rg r := by
  unfold setM
  split
  · exact hw
  · split
    · intro r hr
      simp only [List.append_assoc, List.mem_append, List.mem_replicate, List.mem_singleton] at hr
      rcases hr with hr | ⟨_, rfl⟩ | rfl
      · exact hw r hr
      · unfold Rg; omega
      · exact hv
    · intro r hr
      rcases List.mem_or_eq_of_mem_set hr with h | rfl
      · exact hw r h
      · exact hv
theorem setM_le {ws : List Int} {a v : Int} (h : ws.length ≤ 524661) : (setM ws a v).length ≤ 524661 := by
  unfold setM
  split
  · exact h
  · split
    · simp; omega
    · simp; exact h
theorem wordM_rg {ws : List Int} (hw : ∀ r ∈ ws, Rg r) (a : Int) : Rg (wordM ws a) := by
  unfold wordM
  split
  · unfold Rg; omega
  · rename_i h
    rw [List.getD_eq_getElem?_getD, List.getElem?_eq_getElem (by omega), Option.getD_some]
    exact hw _ (List.getElem_mem _)
theorem rg0 : Rg 0 := by unfold Rg; omega
/-- What holds of words and a heap. -/
structure WFw (ws : List Int) (h : List ArD) : Prop where
  rg : ∀ r ∈ ws, Rg r
  len : ws.length ≤ 524661
  heap : WFh h
theorem dropBs_some {rec : List Int → List ArD → Int → Int → Option (List Int × List ArD)} {N : Nat}
    (hrec : ∀ ws h a s, WFw ws h → nz ws < N → ∃ x, rec ws h a s = some x ∧ WFw x.1 x.2 ∧ nz x.1 ≤ nz ws) :
    ∀ (bs : List BoxD) (ws : List Int) (h : List ArD) (a : Int), WFw ws h → nz ws < N + 1 → ∃ x, dropBs rec bs ws h a = some x ∧ WFw x.1 x.2 ∧ nz x.1 ≤ nz ws := by
  intro bs
  induction bs with
  | nil => intro ws h a hw _; exact ⟨_, rfl, hw, Nat.le_refl _⟩
  | cons b r ih =>
    intro ws h a hw hn
    have h1 := nz_setM ws (w64 (a + b.at_)) hw.len
    have hw1 : WFw (setM ws (w64 (a + b.at_)) 0) h := ⟨setM_rg hw.rg rg0, setM_le hw.len, hw.heap⟩
    unfold dropBs
    split
    · rename_i e
      rw [if_pos e] at h1
      obtain ⟨x, hx, h2, h3⟩ := ih _ h a hw1 (by omega)
      exact ⟨x, hx, h2, by omega⟩
    · rename_i e
      rw [if_neg e] at h1
      split
      · obtain ⟨x, hx, h2, h3⟩ := hrec _ h (wordM ws (w64 (a + b.at_))) b.shp hw1 (by omega)
        rw [hx]
        obtain ⟨y, hy, h4, h5⟩ := ih x.1 (giveH x.2 (wordM ws (w64 (a + b.at_)))) a ⟨h2.rg, h2.len, giveH_wf h2.heap _⟩ (by omega)
        exact ⟨y, hy, h4, by omega⟩
      · obtain ⟨x, hx, h2, h3⟩ := ih _ (giveH h (wordM ws (w64 (a + b.at_)))) a ⟨hw1.rg, hw1.len, giveH_wf hw1.heap _⟩ (by omega)
        exact ⟨x, hx, h2, by omega⟩
theorem dropF_some (c : CodeD) (n : Nat) : ∀ (ws : List Int) (h : List ArD) (a s : Int), WFw ws h → nz ws < n → ∃ x, dropF c n ws h a s = some x ∧ WFw x.1 x.2 ∧ nz x.1 ≤ nz ws := by
  induction n with
  | zero => intro ws h a s _ hn; omega
  | succ n ih => intro ws h a s hw hn; exact dropBs_some ih _ ws h a hw hn
def dropM (c : CodeD) (ws : List Int) (h : List ArD) (a s : Int) : List Int × List ArD := (dropF c (nz ws + 1) ws h a s).getD (ws, h)
theorem dropM_some {c : CodeD} {ws : List Int} {h : List ArD} (a s : Int) (hw : WFw ws h) : dropF c (nz ws + 1) ws h a s = some (dropM c ws h a s) ∧ WFw (dropM c ws h a s).1 (dropM c ws h a s).2 := by
  obtain ⟨x, hx, h1, _⟩ := dropF_some c (nz ws + 1) ws h a s hw (by omega)
  unfold dropM
  rw [hx]
  exact ⟨rfl, h1⟩
/-- Words copied one by one. -/
def copyW (ws : List Int) (r a : Int) : Nat → Int → List Int
  | 0, _ => ws
  | q + 1, k => copyW (setM ws (w64 (r + k)) (wordM ws (w64 (a + k)))) r a q (k + 1)
def clearB (ws : List Int) (a : Int) : List BoxD → List Int
  | [] => ws
  | b :: r => clearB (setM ws (w64 (a + b.at_)) 0) a r
def instrOf (c : CodeD) (at_ : Int) : InstrD := match c.list[at_.toNat]? with
  | some i => i
  | none => ⟨0, 0, 0, 0, 0⟩
def regG (m : MachD) (i : Int) : Int := m.regs.getD i.toNat 0
inductive DoR where
  | ok (m : MachD)
  | trap (t : Int)
def put (m : MachD) (r v : Int) : DoR := .ok { m with regs := m.regs.set r.toNat v, at_ := m.at_ + 1 }
/-- What an instruction does. -/
def doM (c : CodeD) (m : MachD) (i : InstrD) : DoR :=
  if i.op = 1 then put m i.r i.n
  else if i.op = 2 then put m i.r (m.frame + i.n)
  else if i.op = 3 then put m i.r (w64 (regG m i.a + i.n))
  else if i.op = 4 then put m i.r (wordM m.words (w64 (regG m i.a + i.n)))
  else if i.op = 5 then .ok { m with words := setM m.words (w64 (regG m i.a + i.n)) (regG m i.r), at_ := m.at_ + 1 }
  else if i.op = 6 then .ok { m with words := copyW m.words (regG m i.r) (regG m i.a) i.n.toNat 0, at_ := m.at_ + 1 }
  else if i.op = 7 then .ok { m with words := clearB m.words (regG m i.a) (boxesOf c i.n), at_ := m.at_ + 1 }
  else if i.op = 8 then (if -9223372036854775808 ≤ regG m i.a + regG m i.b ∧ regG m i.a + regG m i.b ≤ 9223372036854775807 then put m i.r (regG m i.a + regG m i.b) else .trap 1)
  else if i.op = 9 then (if -9223372036854775808 ≤ regG m i.a - regG m i.b ∧ regG m i.a - regG m i.b ≤ 9223372036854775807 then put m i.r (regG m i.a - regG m i.b) else .trap 1)
  else if i.op = 10 then (if -9223372036854775808 ≤ regG m i.a * regG m i.b ∧ regG m i.a * regG m i.b ≤ 9223372036854775807 then put m i.r (regG m i.a * regG m i.b) else .trap 1)
  else if i.op = 11 then (if regG m i.b = 0 then .trap 2 else if regG m i.b = -1 ∧ regG m i.a = -9223372036854775808 then .trap 1 else put m i.r ((regG m i.a).tdiv (regG m i.b)))
  else if i.op = 12 then (if regG m i.b = 0 then .trap 2 else if regG m i.b = -1 ∧ regG m i.a = -9223372036854775808 then .trap 1 else put m i.r ((regG m i.a).tmod (regG m i.b)))
  else if i.op = 13 then put m i.r (bI (regG m i.a == regG m i.b))
  else if i.op = 14 then put m i.r (bI (decide (regG m i.a < regG m i.b)))
  else if i.op = 15 then put m i.r (bI (decide (regG m i.a ≤ regG m i.b)))
  else if i.op = 16 then (if -9223372036854775808 ≤ 0 - regG m i.a ∧ 0 - regG m i.a ≤ 9223372036854775807 then put m i.r (0 - regG m i.a) else .trap 1)
  else if i.op = 17 then put m i.r (w64 (1 - regG m i.a))
  else if i.op = 18 then .ok { m with at_ := i.n }
  else if i.op = 19 then .ok { m with at_ := if regG m i.a = 0 then i.n else m.at_ + 1 }
  else if i.op = 20 then (if m.calls.length + 1 = 32 then .trap 4 else .ok { enterM c m i.n with at_ := (fnOf c i.n).begin_ })
  else if i.op = 21 then .ok { leaveM c m with at_ := leaveN m }
  else if i.op = 22 then (if (takeH m.heap i.n.toNat).2.2 = 0 then .ok { m with heap := (takeH m.heap i.n.toNat).1, regs := m.regs.set i.r.toNat (takeH m.heap i.n.toNat).2.1, at_ := m.at_ + 1 } else .trap 5)
  else if i.op = 23 then .ok { m with words := (dropM c m.words m.heap (regG m i.a) i.n).1, heap := (dropM c m.words m.heap (regG m i.a) i.n).2, at_ := m.at_ + 1 }
  else if i.op = 24 then (match m.input with | [] => .trap 3 | v :: r => .ok { m with regs := m.regs.set i.r.toNat v, input := r, at_ := m.at_ + 1 })
  else if i.op = 25 then .ok { m with printed := m.printed ++ [regG m i.a], at_ := m.at_ + 1 }
  else .ok { m with at_ := m.at_ + 1 }
def stepM (c : CodeD) (m : MachD) : MachD := match doM c { m with steps := m.steps + 1 } (instrOf c m.at_) with
  | .ok m' => m'
  | .trap t => { m with steps := m.steps + 1, kind := 3, trap := t }
def runM (c : CodeD) : Nat → MachD → MachD
  | 0, m => m
  | n + 1, m => if m.kind = 1 then runM c n (stepM c m) else m
def newM (c : CodeD) (input : List Int) : MachD := { words := [], regs := regs0, at_ := (fnOf c c.main).begin_, fn := c.main, frame := 373, calls := [], input := input, kind := 1, answer := 0, trap := 0, printed := [], steps := 0, heap := heap0 }
theorem runM_stop {c : CodeD} {m : MachD} (h : m.kind ≠ 1) (n : Nat) : runM c n m = m := by
  cases n with
  | zero => rfl
  | succ n => rw [runM, if_neg h]
theorem runM_add (c : CodeD) (a b : Nat) (m : MachD) : runM c (a + b) m = runM c b (runM c a m) := by
  induction a generalizing m with
  | zero => rw [Nat.zero_add]; rfl
  | succ a ih =>
    rw [show a + 1 + b = (a + b) + 1 by omega, runM, runM]
    split
    · exact ih _
    · rename_i h; rw [runM_stop h]
theorem runM_snoc (c : CodeD) (n : Nat) (m : MachD) (h : (runM c n m).kind = 1) : runM c (n + 1) m = stepM c (runM c n m) := by
  rw [runM_add, runM, if_pos h]; rfl
theorem runM_snoc' (c : CodeD) (n : Nat) (m : MachD) (h : (runM c n m).kind ≠ 1) : runM c (n + 1) m = runM c n m := by
  rw [runM_add, runM_stop h]
end Go.Proofs.YtddkkmdbolgnlaaDoor.Fw

namespace Go.Proofs.YtddkkmdbolgnlaaDoor.Fw
theorem WFc.ofI_eq {c : CodeD} (h : WFc c) {at_ fn : Int} {f : FnD} (h0 : 0 ≤ fn) (hf : c.fns[fn.toNat]? = some f) (h1 : f.begin_ ≤ at_) (h2 : at_ < endI c fn) : ofI c at_ = fn := by
  have hlt : fn.toNat < c.fns.length := (List.getElem?_eq_some_iff.1 hf).1
  unfold ofI
  have : cntLt c.fns (at_ + 1) = fn.toNat + 1 := by
    refine cntLt_at (by omega) (fun k x hk hx => ?_) (fun k x hk hx => ?_)
    · rcases Nat.lt_or_ge k fn.toNat with hk2 | hk2
      · have := h.sorted k fn.toNat x f hk2 hx hf
        omega
      · have : k = fn.toNat := by omega
        subst this
        rw [hf] at hx; injection hx with hx; subst hx; omega
    · unfold endI at h2
      have hlt2 : fn.toNat + 1 < c.fns.length := by have := (List.getElem?_eq_some_iff.1 hx).1; omega
      rw [show (fn + 1).toNat = fn.toNat + 1 by omega, List.getElem?_eq_getElem hlt2] at h2
      simp only at h2
      rcases Nat.lt_or_ge (fn.toNat + 1) k with hk2 | hk2
      · have := h.sorted (fn.toNat + 1) k _ x hk2 (List.getElem?_eq_getElem hlt2) hx
        omega
      · have : k = fn.toNat + 1 := by omega
        subst this
        rw [List.getElem?_eq_getElem hlt2] at hx; injection hx with hx; subst hx; omega
  omega
theorem WFc.begin_lt {c : CodeD} (h : WFc c) {fn : Int} {f : FnD} (h0 : 0 ≤ fn) (hf : c.fns[fn.toNat]? = some f) : f.begin_ < endI c fn := by
  unfold endI
  split
  · rename_i g hg
    exact h.sorted fn.toNat (fn + 1).toNat f g (by omega) hf hg
  · exact (h.fn _ f hf).2.1
theorem fnOf_at {c : CodeD} {i : Int} {f : FnD} (h : c.fns[i.toNat]? = some f) : fnOf c i = f := by simp [fnOf, h]
/-- The instruction at work, and what was checked of it. -/
structure InsW (c : CodeD) (m : MachD) (i : InstrD) (f : FnD) : Prop where
  at_ : c.list[m.at_.toNat]? = some i
  fn : c.fns[m.fn.toNat]? = some f
  plain : plainI i = true
  within : withinI c m.fn i = true
  next : i.op ≠ 18 → i.op ≠ 21 → m.at_ + 1 < endI c m.fn
theorem WFm.ins {c : CodeD} {m : MachD} (h : WFm c m) (hk : m.kind = 1) : ∃ i f, InsW c m i f := by
  have hwf := h.may.wf
  have ha0 := h.at0; have ha1 := h.at1; have hf0 := h.fn0; have hf1 := h.fn1
  obtain ⟨i, hi⟩ : ∃ i, c.list[m.at_.toNat]? = some i := ⟨_, List.getElem?_eq_getElem (by omega)⟩
  obtain ⟨f, hf⟩ : ∃ f, c.fns[m.fn.toNat]? = some f := ⟨_, List.getElem?_eq_getElem (by omega)⟩
  obtain ⟨h1, h2⟩ := h.inFn hk f hf
  have hof := hwf.ofI_eq hf0 hf h1 h2
  have h4 := h.may.ok4 m.at_.toNat (by omega)
  simp only [ok4, hi, Bool.and_eq_true] at h4
  rw [show ((m.at_.toNat : Nat) : Int) = m.at_ by omega, hof] at h4
  refine ⟨i, f, hi, hf, h4.1, h4.2, fun ho1 ho2 => ?_⟩
  have h5 := h.may.ok5 m.fn.toNat (by omega)
  unfold ok5 at h5
  rw [show ((m.fn.toNat : Nat) : Int) = m.fn by omega] at h5
  rcases (by omega : m.at_ + 1 < endI c m.fn ∨ endI c m.fn - 1 = m.at_) with hlt | he
  · exact hlt
  · rw [he, hi] at h5
    simp only [Bool.or_eq_true, beq_iff_eq] at h5
    rcases h5 with h5 | h5
    · exact absurd h5 ho1
    · exact absurd h5 ho2
theorem InsW.instrOf {c : CodeD} {m : MachD} {i : InstrD} {f : FnD} (h : InsW c m i f) : instrOf c m.at_ = i := by simp [Fw.instrOf, h.at_]
theorem InsW.plainW {c : CodeD} {m : MachD} {i : InstrD} {f : FnD} (h : InsW c m i f) : (1 ≤ i.op ∧ i.op ≤ 25) ∧ (0 ≤ i.r ∧ i.r ≤ 15) ∧ (0 ≤ i.a ∧ i.a ≤ 15) ∧ (0 ≤ i.b ∧ i.b ≤ 15) := by
  have := h.plain
  simp only [plainI, badPart, Bool.and_eq_true, Bool.not_eq_true', Bool.or_eq_false_iff, Bool.and_eq_false_iff, decide_eq_true_eq, Bool.true_and, Bool.or_eq_false_iff, decide_eq_false_iff_not, beq_iff_eq] at this
  omega
theorem reg_rg {c : CodeD} {m : MachD} (h : WFm c m) (k : Int) : Rg (regG m k) := by
  unfold regG
  rw [List.getD_eq_getElem?_getD]
  cases hq : m.regs[k.toNat]? with
  | none => exact rg0
  | some v => exact h.rg v (List.mem_of_getElem? hq)
theorem set_rg {l : List Int} {k : Nat} {v : Int} (h : ∀ r ∈ l, Rg r) (hv : Rg v) : ∀ r ∈ l.set k v, Rg r := fun r hr => by
  rcases List.mem_or_eq_of_mem_set hr with h1 | rfl
  · exact h r h1
  · exact hv
theorem WFm.w {c : CodeD} {m : MachD} (h : WFm c m) : WFw m.words m.heap := ⟨h.wrg, h.wlen, h.heap⟩
/-- A new place in the same function; words, registers, heap, what is left, what was printed turned. -/
theorem WFm.go {c : CodeD} {m : MachD} (h : WFm c m) {ws rs inp pr : List Int} {hp : List ArD} {nx : Int} {f : FnD} (hf : c.fns[m.fn.toNat]? = some f)
    (hw : WFw ws hp) (hr : rs.length = 16) (hrr : ∀ r ∈ rs, Rg r) (hi : ∀ r ∈ inp, Rg r) (hil : inp.length ≤ 4096) (hp1 : ∀ r ∈ pr, Rg r) (hp2 : (pr.length : Int) ≤ m.steps) (h1 : f.begin_ ≤ nx) (h2 : nx < endI c m.fn) :
    WFm c { m with words := ws, regs := rs, heap := hp, input := inp, printed := pr, at_ := nx } := by
  have hwf := h.may.wf
  have he := hwf.endI_rg (fn := m.fn) h.fn0
  have hb := hwf.fn _ f hf
  exact ⟨h.may, hr, hrr, hw.rg, hw.len, (by show (0:Int) ≤ nx; omega), (by show nx < _; omega), h.fn0, h.fn1, (fun _ g hg => by
    have : g = f := by
      have hg' : c.fns[m.fn.toNat]? = some g := hg
      rw [hf] at hg'; injection hg' with e; exact e.symm
    subst this
    exact ⟨h1, h2⟩), h.clen, h.frame0, h.frame1, h.call, hi, hil, hp1, hp2, h.kind, h.arg, h.trap, h.steps0, hw.heap⟩
theorem tmod_rg64 {a b : Int} (ha : Rg a) : Rg (a.tmod b) := by
  have h1 := Int.natAbs_tmod a b
  have h2 : a.natAbs % b.natAbs ≤ a.natAbs := Nat.mod_le _ _
  have h3 := Int.tmod_nonneg (a := a) b
  unfold Rg at *
  by_cases h4 : 0 ≤ a
  · have := h3 h4; omega
  · have h5 : (-a).tmod b = -(a.tmod b) := Int.neg_tmod a b
    have h6 := Int.tmod_nonneg (a := -a) b (by omega)
    omega
theorem bI_rg64 (b : Bool) : Rg (bI b) := by cases b <;> (unfold bI Rg; simp)
theorem copyW_wf {r a : Int} (q : Nat) : ∀ (ws : List Int) (h : List ArD) (k : Int), WFw ws h → WFw (copyW ws r a q k) h := by
  induction q with
  | zero => intro ws h k hw; exact hw
  | succ q ih => intro ws h k hw; exact ih _ h _ ⟨setM_rg hw.rg (wordM_rg hw.rg _), setM_le hw.len, hw.heap⟩
theorem clearB_wf {a : Int} (bs : List BoxD) : ∀ (ws : List Int) (h : List ArD), WFw ws h → WFw (clearB ws a bs) h := by
  induction bs with
  | nil => intro ws h hw; exact hw
  | cons b r ih => intro ws h hw; exact ih _ h ⟨setM_rg hw.rg rg0, setM_le hw.len, hw.heap⟩
theorem clrW_wf {base : Int} (q : Nat) : ∀ (ws : List Int) (h : List ArD) (k : Int), WFw ws h → WFw (clrW ws base q k) h := by
  induction q with
  | zero => intro ws h k hw; exact hw
  | succ q ih => intro ws h k hw; exact ih _ h _ ⟨setM_rg hw.rg rg0, setM_le hw.len, hw.heap⟩
theorem takeH_rg {h : List ArD} (k : Nat) (hk : k < 5) : Rg (takeH h k).2.1 := by
  unfold takeH
  split
  · split
    · rename_i i hi
      have h1 := baseV_rg (k := k) (by omega)
      have h2 := shl_rg (freeI_lt hi).1 hk
      unfold Rg; simp only; omega
    · exact rg0
  · exact rg0
theorem regs0_rg : ∀ r ∈ regs0, Rg r := fun r hr => by
  have := List.eq_of_mem_replicate hr
  subst this; exact rg0
end Go.Proofs.YtddkkmdbolgnlaaDoor.Fw

namespace Go.Proofs.YtddkkmdbolgnlaaDoor.Fw
theorem doM_1 {c : CodeD} {m : MachD} {i : InstrD} (h : i.op = 1) : doM c m i = put m i.r i.n := by
  unfold doM
  rw [if_pos h]
theorem doM_2 {c : CodeD} {m : MachD} {i : InstrD} (h : i.op = 2) : doM c m i = put m i.r (m.frame + i.n) := by
  unfold doM
  rw [if_neg (by omega), if_pos h]
theorem doM_3 {c : CodeD} {m : MachD} {i : InstrD} (h : i.op = 3) : doM c m i = put m i.r (w64 (regG m i.a + i.n)) := by
  unfold doM
  rw [if_neg (by omega), if_neg (by omega), if_pos h]
theorem doM_4 {c : CodeD} {m : MachD} {i : InstrD} (h : i.op = 4) : doM c m i = put m i.r (wordM m.words (w64 (regG m i.a + i.n))) := by
  unfold doM
  rw [if_neg (by omega), if_neg (by omega), if_neg (by omega), if_pos h]
theorem doM_5 {c : CodeD} {m : MachD} {i : InstrD} (h : i.op = 5) : doM c m i = .ok { m with words := setM m.words (w64 (regG m i.a + i.n)) (regG m i.r), at_ := m.at_ + 1 } := by
  unfold doM
  rw [if_neg (by omega), if_neg (by omega), if_neg (by omega), if_neg (by omega), if_pos h]
theorem doM_6 {c : CodeD} {m : MachD} {i : InstrD} (h : i.op = 6) : doM c m i = .ok { m with words := copyW m.words (regG m i.r) (regG m i.a) i.n.toNat 0, at_ := m.at_ + 1 } := by
  unfold doM
  rw [if_neg (by omega), if_neg (by omega), if_neg (by omega), if_neg (by omega), if_neg (by omega), if_pos h]
theorem doM_7 {c : CodeD} {m : MachD} {i : InstrD} (h : i.op = 7) : doM c m i = .ok { m with words := clearB m.words (regG m i.a) (boxesOf c i.n), at_ := m.at_ + 1 } := by
  unfold doM
  rw [if_neg (by omega), if_neg (by omega), if_neg (by omega), if_neg (by omega), if_neg (by omega), if_neg (by omega), if_pos h]
theorem doM_8 {c : CodeD} {m : MachD} {i : InstrD} (h : i.op = 8) : doM c m i = (if -9223372036854775808 ≤ regG m i.a + regG m i.b ∧ regG m i.a + regG m i.b ≤ 9223372036854775807 then put m i.r (regG m i.a + regG m i.b) else .trap 1) := by
  unfold doM
  rw [if_neg (by omega), if_neg (by omega), if_neg (by omega), if_neg (by omega), if_neg (by omega), if_neg (by omega), if_neg (by omega), if_pos h]
theorem doM_9 {c : CodeD} {m : MachD} {i : InstrD} (h : i.op = 9) : doM c m i = (if -9223372036854775808 ≤ regG m i.a - regG m i.b ∧ regG m i.a - regG m i.b ≤ 9223372036854775807 then put m i.r (regG m i.a - regG m i.b) else .trap 1) := by
  unfold doM
  rw [if_neg (by omega), if_neg (by omega), if_neg (by omega), if_neg (by omega), if_neg (by omega), if_neg (by omega), if_neg (by omega), if_neg (by omega), if_pos h]
theorem doM_10 {c : CodeD} {m : MachD} {i : InstrD} (h : i.op = 10) : doM c m i = (if -9223372036854775808 ≤ regG m i.a * regG m i.b ∧ regG m i.a * regG m i.b ≤ 9223372036854775807 then put m i.r (regG m i.a * regG m i.b) else .trap 1) := by
  unfold doM
  rw [if_neg (by omega), if_neg (by omega), if_neg (by omega), if_neg (by omega), if_neg (by omega), if_neg (by omega), if_neg (by omega), if_neg (by omega), if_neg (by omega), if_pos h]
theorem doM_11 {c : CodeD} {m : MachD} {i : InstrD} (h : i.op = 11) : doM c m i = (if regG m i.b = 0 then .trap 2 else if regG m i.b = -1 ∧ regG m i.a = -9223372036854775808 then .trap 1 else put m i.r ((regG m i.a).tdiv (regG m i.b))) := by
  unfold doM
  rw [if_neg (by omega), if_neg (by omega), if_neg (by omega), if_neg (by omega), if_neg (by omega), if_neg (by omega), if_neg (by omega), if_neg (by omega), if_neg (by omega), if_neg (by omega), if_pos h]
theorem doM_12 {c : CodeD} {m : MachD} {i : InstrD} (h : i.op = 12) : doM c m i = (if regG m i.b = 0 then .trap 2 else if regG m i.b = -1 ∧ regG m i.a = -9223372036854775808 then .trap 1 else put m i.r ((regG m i.a).tmod (regG m i.b))) := by
  unfold doM
  rw [if_neg (by omega), if_neg (by omega), if_neg (by omega), if_neg (by omega), if_neg (by omega), if_neg (by omega), if_neg (by omega), if_neg (by omega), if_neg (by omega), if_neg (by omega), if_neg (by omega), if_pos h]
theorem doM_13 {c : CodeD} {m : MachD} {i : InstrD} (h : i.op = 13) : doM c m i = put m i.r (bI (regG m i.a == regG m i.b)) := by
  unfold doM
  rw [if_neg (by omega), if_neg (by omega), if_neg (by omega), if_neg (by omega), if_neg (by omega), if_neg (by omega), if_neg (by omega), if_neg (by omega), if_neg (by omega), if_neg (by omega), if_neg (by omega), if_neg (by omega), if_pos h]
theorem doM_14 {c : CodeD} {m : MachD} {i : InstrD} (h : i.op = 14) : doM c m i = put m i.r (bI (decide (regG m i.a < regG m i.b))) := by
  unfold doM
  rw [if_neg (by omega), if_neg (by omega), if_neg (by omega), if_neg (by omega), if_neg (by omega), if_neg (by omega), if_neg (by omega), if_neg (by omega), if_neg (by omega), if_neg (by omega), if_neg (by omega), if_neg (by omega), if_neg (by omega), if_pos h]
theorem doM_15 {c : CodeD} {m : MachD} {i : InstrD} (h : i.op = 15) : doM c m i = put m i.r (bI (decide (regG m i.a ≤ regG m i.b))) := by
  unfold doM
  rw [if_neg (by omega), if_neg (by omega), if_neg (by omega), if_neg (by omega), if_neg (by omega), if_neg (by omega), if_neg (by omega), if_neg (by omega), if_neg (by omega), if_neg (by omega), if_neg (by omega), if_neg (by omega), if_neg (by omega), if_neg (by omega), if_pos h]
theorem doM_16 {c : CodeD} {m : MachD} {i : InstrD} (h : i.op = 16) : doM c m i = (if -9223372036854775808 ≤ 0 - regG m i.a ∧ 0 - regG m i.a ≤ 9223372036854775807 then put m i.r (0 - regG m i.a) else .trap 1) := by
  unfold doM
  rw [if_neg (by omega), if_neg (by omega), if_neg (by omega), if_neg (by omega), if_neg (by omega), if_neg (by omega), if_neg (by omega), if_neg (by omega), if_neg (by omega), if_neg (by omega), if_neg (by omega), if_neg (by omega), if_neg (by omega), if_neg (by omega), if_neg (by omega), if_pos h]
theorem doM_17 {c : CodeD} {m : MachD} {i : InstrD} (h : i.op = 17) : doM c m i = put m i.r (w64 (1 - regG m i.a)) := by
  unfold doM
  rw [if_neg (by omega), if_neg (by omega), if_neg (by omega), if_neg (by omega), if_neg (by omega), if_neg (by omega), if_neg (by omega), if_neg (by omega), if_neg (by omega), if_neg (by omega), if_neg (by omega), if_neg (by omega), if_neg (by omega), if_neg (by omega), if_neg (by omega), if_neg (by omega), if_pos h]
theorem doM_18 {c : CodeD} {m : MachD} {i : InstrD} (h : i.op = 18) : doM c m i = .ok { m with at_ := i.n } := by
  unfold doM
  rw [if_neg (by omega), if_neg (by omega), if_neg (by omega), if_neg (by omega), if_neg (by omega), if_neg (by omega), if_neg (by omega), if_neg (by omega), if_neg (by omega), if_neg (by omega), if_neg (by omega), if_neg (by omega), if_neg (by omega), if_neg (by omega), if_neg (by omega), if_neg (by omega), if_neg (by omega), if_pos h]
theorem doM_19 {c : CodeD} {m : MachD} {i : InstrD} (h : i.op = 19) : doM c m i = .ok { m with at_ := if regG m i.a = 0 then i.n else m.at_ + 1 } := by
  unfold doM
  rw [if_neg (by omega), if_neg (by omega), if_neg (by omega), if_neg (by omega), if_neg (by omega), if_neg (by omega), if_neg (by omega), if_neg (by omega), if_neg (by omega), if_neg (by omega), if_neg (by omega), if_neg (by omega), if_neg (by omega), if_neg (by omega), if_neg (by omega), if_neg (by omega), if_neg (by omega), if_neg (by omega), if_pos h]
theorem doM_20 {c : CodeD} {m : MachD} {i : InstrD} (h : i.op = 20) : doM c m i = (if m.calls.length + 1 = 32 then .trap 4 else .ok { enterM c m i.n with at_ := (fnOf c i.n).begin_ }) := by
  unfold doM
  rw [if_neg (by omega), if_neg (by omega), if_neg (by omega), if_neg (by omega), if_neg (by omega), if_neg (by omega), if_neg (by omega), if_neg (by omega), if_neg (by omega), if_neg (by omega), if_neg (by omega), if_neg (by omega), if_neg (by omega), if_neg (by omega), if_neg (by omega), if_neg (by omega), if_neg (by omega), if_neg (by omega), if_neg (by omega), if_pos h]
theorem doM_21 {c : CodeD} {m : MachD} {i : InstrD} (h : i.op = 21) : doM c m i = .ok { leaveM c m with at_ := leaveN m } := by
  unfold doM
  rw [if_neg (by omega), if_neg (by omega), if_neg (by omega), if_neg (by omega), if_neg (by omega), if_neg (by omega), if_neg (by omega), if_neg (by omega), if_neg (by omega), if_neg (by omega), if_neg (by omega), if_neg (by omega), if_neg (by omega), if_neg (by omega), if_neg (by omega), if_neg (by omega), if_neg (by omega), if_neg (by omega), if_neg (by omega), if_neg (by omega), if_pos h]
theorem doM_22 {c : CodeD} {m : MachD} {i : InstrD} (h : i.op = 22) : doM c m i = (if (takeH m.heap i.n.toNat).2.2 = 0 then .ok { m with heap := (takeH m.heap i.n.toNat).1, regs := m.regs.set i.r.toNat (takeH m.heap i.n.toNat).2.1, at_ := m.at_ + 1 } else .trap 5) := by
  unfold doM
  rw [if_neg (by omega), if_neg (by omega), if_neg (by omega), if_neg (by omega), if_neg (by omega), if_neg (by omega), if_neg (by omega), if_neg (by omega), if_neg (by omega), if_neg (by omega), if_neg (by omega), if_neg (by omega), if_neg (by omega), if_neg (by omega), if_neg (by omega), if_neg (by omega), if_neg (by omega), if_neg (by omega), if_neg (by omega), if_neg (by omega), if_neg (by omega), if_pos h]
theorem doM_23 {c : CodeD} {m : MachD} {i : InstrD} (h : i.op = 23) : doM c m i = .ok { m with words := (dropM c m.words m.heap (regG m i.a) i.n).1, heap := (dropM c m.words m.heap (regG m i.a) i.n).2, at_ := m.at_ + 1 } := by
  unfold doM
  rw [if_neg (by omega), if_neg (by omega), if_neg (by omega), if_neg (by omega), if_neg (by omega), if_neg (by omega), if_neg (by omega), if_neg (by omega), if_neg (by omega), if_neg (by omega), if_neg (by omega), if_neg (by omega), if_neg (by omega), if_neg (by omega), if_neg (by omega), if_neg (by omega), if_neg (by omega), if_neg (by omega), if_neg (by omega), if_neg (by omega), if_neg (by omega), if_neg (by omega), if_pos h]
theorem doM_24 {c : CodeD} {m : MachD} {i : InstrD} (h : i.op = 24) : doM c m i = (match m.input with | [] => .trap 3 | v :: r => .ok { m with regs := m.regs.set i.r.toNat v, input := r, at_ := m.at_ + 1 }) := by
  unfold doM
  rw [if_neg (by omega), if_neg (by omega), if_neg (by omega), if_neg (by omega), if_neg (by omega), if_neg (by omega), if_neg (by omega), if_neg (by omega), if_neg (by omega), if_neg (by omega), if_neg (by omega), if_neg (by omega), if_neg (by omega), if_neg (by omega), if_neg (by omega), if_neg (by omega), if_neg (by omega), if_neg (by omega), if_neg (by omega), if_neg (by omega), if_neg (by omega), if_neg (by omega), if_neg (by omega), if_pos h]
  all_goals (cases m.input <;> rfl)
theorem doM_25 {c : CodeD} {m : MachD} {i : InstrD} (h : i.op = 25) : doM c m i = .ok { m with printed := m.printed ++ [regG m i.a], at_ := m.at_ + 1 } := by
  unfold doM
  rw [if_neg (by omega), if_neg (by omega), if_neg (by omega), if_neg (by omega), if_neg (by omega), if_neg (by omega), if_neg (by omega), if_neg (by omega), if_neg (by omega), if_neg (by omega), if_neg (by omega), if_neg (by omega), if_neg (by omega), if_neg (by omega), if_neg (by omega), if_neg (by omega), if_neg (by omega), if_neg (by omega), if_neg (by omega), if_neg (by omega), if_neg (by omega), if_neg (by omega), if_neg (by omega), if_neg (by omega), if_pos h]
def GoodR (c : CodeD) (m : MachD) : DoR → Prop
  | .ok m' => WFm c m' ∧ m'.steps = m.steps ∧ ∃ l, m'.printed = m.printed ++ l
  | .trap t => 0 ≤ t ∧ t ≤ 255
section
variable {c : CodeD} {m : MachD} {i : InstrD} {f : FnD}
theorem GoodR.go (h : WFm c m) (hk : m.kind = 1) (hi : InsW c m i f) {ws rs inp : List Int} {hp : List ArD} {nx : Int} (hw : WFw ws hp) (hr : rs.length = 16) (hrr : ∀ r ∈ rs, Rg r) (hin : ∀ r ∈ inp, Rg r) (hil : inp.length ≤ 4096) (h1 : f.begin_ ≤ nx) (h2 : nx < endI c m.fn) :
    GoodR c m (.ok { m with words := ws, regs := rs, heap := hp, input := inp, at_ := nx }) :=
  ⟨h.go (pr := m.printed) hi.fn hw hr hrr hin hil h.prg h.plen h1 h2, rfl, [], by simp⟩
theorem GoodR.nxt (h : WFm c m) (hk : m.kind = 1) (hi : InsW c m i f) (ho : i.op ≠ 18 ∧ i.op ≠ 21) : f.begin_ ≤ m.at_ + 1 ∧ m.at_ + 1 < endI c m.fn := by
  obtain ⟨h1, _⟩ := h.inFn hk f hi.fn
  exact ⟨by omega, hi.next ho.1 ho.2⟩
theorem GoodR.put (h : WFm c m) (hk : m.kind = 1) (hi : InsW c m i f) (ho : i.op ≠ 18 ∧ i.op ≠ 21) {v : Int} (hv : Rg v) : GoodR c m (put m i.r v) := by
  obtain ⟨h1, h2⟩ := GoodR.nxt h hk hi ho
  exact GoodR.go h hk hi h.w (by simp [h.regs]) (set_rg h.rg hv) h.irg h.ilen h1 h2
theorem GoodR.wrd (h : WFm c m) (hk : m.kind = 1) (hi : InsW c m i f) (ho : i.op ≠ 18 ∧ i.op ≠ 21) {ws : List Int} {hp : List ArD} (hw : WFw ws hp) : GoodR c m (.ok { m with words := ws, heap := hp, at_ := m.at_ + 1 }) := by
  obtain ⟨h1, h2⟩ := GoodR.nxt h hk hi ho
  exact GoodR.go h hk hi hw h.regs h.rg h.irg h.ilen h1 h2
theorem withinJ (h : WFm c m) (hi : InsW c m i f) (ho : i.op = 18 ∨ i.op = 19) : f.begin_ ≤ i.n ∧ i.n < endI c m.fn := by
  have := hi.within
  unfold withinI at this
  rw [if_neg (by omega), if_neg (by omega), if_neg (by omega), if_neg (by omega), if_neg (by omega), if_pos ho] at this
  have hf0 := h.fn0
  simp only [btw, fnAt, if_neg (show ¬ m.fn < 0 by omega), hi.fn, Option.map_some, Option.getD_some, Bool.and_eq_true, decide_eq_true_eq] at this
  omega
theorem withinF (h : WFm c m) (hi : InsW c m i f) (ho : i.op = 2) : 0 ≤ i.n ∧ i.n < 16384 := by
  have := hi.within
  unfold withinI at this
  rw [if_pos ho] at this
  have hf0 := h.fn0
  simp only [btw, fnAt, if_neg (show ¬ m.fn < 0 by omega), hi.fn, Option.map_some, Option.getD_some, Bool.and_eq_true, decide_eq_true_eq] at this
  have := h.may.wf.fn _ f hi.fn
  omega
theorem withinA (hi : InsW c m i f) (ho : i.op = 3 ∨ i.op = 4 ∨ i.op = 5) : 0 ≤ i.n ∧ i.n ≤ 16384 := by
  have := hi.within
  unfold withinI at this
  rw [if_neg (by omega), if_pos ho] at this
  simpa [btw] using this
theorem withinW (hi : InsW c m i f) (ho : i.op = 6) : 0 ≤ i.n ∧ i.n ≤ 16 := by
  have := hi.within
  unfold withinI at this
  rw [if_neg (by omega), if_neg (by omega), if_pos ho] at this
  simpa [btw] using this
theorem withinS (hi : InsW c m i f) (ho : i.op = 7 ∨ i.op = 23) : 0 ≤ i.n ∧ i.n < c.shapes.length := by
  have := hi.within
  unfold withinI at this
  rw [if_neg (by omega), if_neg (by omega), if_neg (by omega), if_pos ho] at this
  simp only [btw, Bool.and_eq_true, decide_eq_true_eq] at this
  omega
theorem withinC (hi : InsW c m i f) (ho : i.op = 22) : 0 ≤ i.n ∧ i.n ≤ 4 := by
  have := hi.within
  unfold withinI at this
  rw [if_neg (by omega), if_neg (by omega), if_neg (by omega), if_neg (by omega), if_pos ho] at this
  simpa [btw] using this
theorem withinK (hi : InsW c m i f) (ho : i.op = 20) : 0 ≤ i.n ∧ i.n < c.fns.length := by
  have := hi.within
  unfold withinI at this
  rw [if_neg (by omega), if_neg (by omega), if_neg (by omega), if_neg (by omega), if_neg (by omega), if_neg (by omega), if_pos ho] at this
  simp only [btw, Bool.and_eq_true, decide_eq_true_eq] at this
  omega
theorem WFm.frame_hi (h : WFm c m) : m.frame ≤ 373 + 31 * 16384 := by
  have := h.frame1; have := h.clen; omega
theorem instr_rg (hi : InsW c m i f) {I : Mem} {vs : List Value} (hR : InstrR I i vs) : Rg i.n := hR.2.2.2.2.2
theorem enterM_wf (h : WFm c m) (hk : m.kind = 1) (hi : InsW c m i f) (ho : i.op = 20) (hcl : m.calls.length + 1 ≠ 32) : WFm c { enterM c m i.n with at_ := (fnOf c i.n).begin_ } := by
  obtain ⟨hn0, hn1⟩ := withinK hi ho
  obtain ⟨g, hg⟩ : ∃ g, c.fns[i.n.toNat]? = some g := ⟨_, List.getElem?_eq_getElem (by omega)⟩
  have hgf := h.may.wf.fn _ g hg
  have hff := h.may.wf.fn _ f hi.fn
  have hbl := h.may.wf.begin_lt hn0 hg
  obtain ⟨hx1, hx2⟩ := GoodR.nxt h hk hi (by omega)
  have hc := h.clen
  have hfr0 := h.frame0; have hfr1 := h.frame1
  have hl : (m.calls ++ [(m.at_ + 1, m.frame, m.fn)]).length = m.calls.length + 1 := by simp
  refine ⟨h.may, rfl, regs0_rg, (clrW_wf _ _ m.heap _ h.w).rg, (clrW_wf _ _ m.heap _ h.w).len, ?_, ?_, hn0, hn1, fun _ x hx => ?_, ?_, ?_, ?_, fun j x hx => ?_, h.irg, h.ilen, h.prg, h.plen, h.kind, h.arg, h.trap, h.steps0, h.heap⟩
  · show 0 ≤ (fnOf c i.n).begin_
    rw [fnOf_at hg]; exact hgf.1
  · show (fnOf c i.n).begin_ < _
    rw [fnOf_at hg]; exact hgf.2.1
  · have hx' : c.fns[i.n.toNat]? = some x := hx
    rw [hg] at hx'; injection hx' with e; subst e
    show g.begin_ ≤ (fnOf c i.n).begin_ ∧ (fnOf c i.n).begin_ < endI c i.n
    rw [fnOf_at hg]; exact ⟨Int.le_refl _, hbl⟩
  · show (m.calls ++ _).length ≤ 31
    rw [hl]; omega
  · show 373 ≤ m.frame + (fnOf c m.fn).words
    rw [fnOf_at hi.fn]; omega
  · show m.frame + (fnOf c m.fn).words ≤ 373 + ((m.calls ++ _).length : Int) * 16384
    rw [hl, fnOf_at hi.fn]; omega
  · have hx' : (m.calls ++ [(m.at_ + 1, m.frame, m.fn)])[j]? = some x := hx
    rcases Nat.lt_or_ge j m.calls.length with hj | hj
    · rw [List.getElem?_append_left hj] at hx'
      exact h.call j x hx'
    · rw [List.getElem?_append_right hj] at hx'
      cases hq : j - m.calls.length with
      | zero =>
        rw [hq] at hx'
        simp at hx'
        subst hx'
        refine ⟨⟨hfr0, by simp only; omega⟩, ⟨h.fn0, h.fn1⟩, fun y hy => ?_⟩
        have hy' : c.fns[m.fn.toNat]? = some y := hy
        rw [hi.fn] at hy'; injection hy' with e; subst e
        exact ⟨hx1, hx2⟩
      | succ q => rw [hq] at hx'; simp at hx'
theorem leaveM_wf (h : WFm c m) (hk : m.kind = 1) (hi : InsW c m i f) : WFm c { leaveM c m with at_ := leaveN m } := by
  cases hl : m.calls.getLast? with
  | none =>
    have e1 : leaveM c m = { m with kind := 2, answer := wordM m.words (m.frame + paramsOf c) } := by simp [leaveM, hl]
    have e2 : leaveN m = 0 := by simp [leaveN, hl]
    rw [e1, e2]
    exact ⟨h.may, h.regs, h.rg, h.wrg, h.wlen, (by show (0:Int) ≤ 0; omega), (by have := h.may.wf.l1; show (0:Int) < c.list.length; omega), h.fn0, h.fn1, (fun hk2 => by cases hk2), h.clen, h.frame0, h.frame1, h.call, h.irg, h.ilen, h.prg, h.plen, .inr (.inl rfl), wordM_rg h.wrg _, h.trap, h.steps0, h.heap⟩
  | some x =>
    have e1 : leaveM c m = { m with calls := m.calls.dropLast, frame := x.2.1, fn := x.2.2, regs := regs0 } := by simp [leaveM, hl]
    have e2 : leaveN m = x.1 := by simp [leaveN, hl]
    rw [e1, e2]
    rw [List.getLast?_eq_getElem?] at hl
    obtain ⟨⟨h1, h2⟩, ⟨h3, h4⟩, h5⟩ := h.call _ x hl
    have hlt := (List.getElem?_eq_some_iff.1 hl).1
    obtain ⟨g, hg⟩ : ∃ g, c.fns[x.2.2.toNat]? = some g := ⟨_, List.getElem?_eq_getElem (by omega)⟩
    obtain ⟨h6, h7⟩ := h5 g hg
    have hgf := h.may.wf.fn _ g hg
    have hel := h.may.wf.endI_rg h3
    have hc := h.clen
    have hdl : m.calls.dropLast.length = m.calls.length - 1 := by simp
    refine ⟨h.may, rfl, regs0_rg, h.wrg, h.wlen, (by show (0:Int) ≤ x.1; omega), (by show x.1 < _; omega), h3, h4, fun _ y hy => ?_, ?_, h1, ?_, fun j y hy => ?_, h.irg, h.ilen, h.prg, h.plen, h.kind, h.arg, h.trap, h.steps0, h.heap⟩
    · have hy' : c.fns[x.2.2.toNat]? = some y := hy
      rw [hg] at hy'; injection hy' with e; subst e
      exact ⟨h6, h7⟩
    · show m.calls.dropLast.length ≤ 31
      rw [hdl]; omega
    · show x.2.1 ≤ 373 + (m.calls.dropLast.length : Int) * 16384
      rw [hdl]; exact h2
    · have hy' : m.calls.dropLast[j]? = some y := hy
      have hj : j < m.calls.dropLast.length := (List.getElem?_eq_some_iff.1 hy').1
      rw [List.getElem?_dropLast, if_pos (by omega)] at hy'
      exact h.call j y hy'
theorem doM_wf (h : WFm c m) (hk : m.kind = 1) (hs : (m.printed.length : Int) + 1 ≤ m.steps) (hi : InsW c m i f) (hn : Rg i.n) : GoodR c m (doM c m i) := by
  obtain ⟨⟨ho1, ho2⟩, _⟩ := hi.plainW
  have ra := reg_rg h i.a
  have rb := reg_rg h i.b
  have rr := reg_rg h i.r
  by_cases h1 : i.op = 1
  · rw [doM_1 h1]
    exact GoodR.put h hk hi (by omega) hn
  by_cases h2 : i.op = 2
  · rw [doM_2 h2]
    have hn2 := withinF h hi h2; have f0 := h.frame0; have f1 := h.frame_hi
    exact GoodR.put h hk hi (by omega) (by unfold Rg; omega)
  by_cases h3 : i.op = 3
  · rw [doM_3 h3]
    exact GoodR.put h hk hi (by omega) (w64_rg _)
  by_cases h4 : i.op = 4
  · rw [doM_4 h4]
    exact GoodR.put h hk hi (by omega) (wordM_rg h.wrg _)
  by_cases h5 : i.op = 5
  · rw [doM_5 h5]
    exact GoodR.wrd h hk hi (by omega) ⟨setM_rg h.wrg rr, setM_le h.wlen, h.heap⟩
  by_cases h6 : i.op = 6
  · rw [doM_6 h6]
    exact GoodR.wrd h hk hi (by omega) (copyW_wf _ _ _ _ h.w)
  by_cases h7 : i.op = 7
  · rw [doM_7 h7]
    exact GoodR.wrd h hk hi (by omega) (clearB_wf _ _ _ h.w)
  by_cases h8 : i.op = 8
  · rw [doM_8 h8]
    split
    · exact GoodR.put h hk hi (by omega) (by assumption)
    · exact ⟨by omega, by omega⟩
  by_cases h9 : i.op = 9
  · rw [doM_9 h9]
    split
    · exact GoodR.put h hk hi (by omega) (by assumption)
    · exact ⟨by omega, by omega⟩
  by_cases h10 : i.op = 10
  · rw [doM_10 h10]
    split
    · exact GoodR.put h hk hi (by omega) (by assumption)
    · exact ⟨by omega, by omega⟩
  by_cases h16 : i.op = 16
  · rw [doM_16 h16]
    split
    · exact GoodR.put h hk hi (by omega) (by assumption)
    · exact ⟨by omega, by omega⟩
  by_cases h11 : i.op = 11
  · rw [doM_11 h11]
    split
    · exact ⟨by omega, by omega⟩
    · split
      · exact ⟨by omega, by omega⟩
      · exact GoodR.put h hk hi (by omega) (tdiv_rg ra (by assumption) (by assumption))
  by_cases h12 : i.op = 12
  · rw [doM_12 h12]
    split
    · exact ⟨by omega, by omega⟩
    · split
      · exact ⟨by omega, by omega⟩
      · exact GoodR.put h hk hi (by omega) (tmod_rg64 ra)
  by_cases h13 : i.op = 13
  · rw [doM_13 h13]
    exact GoodR.put h hk hi (by omega) (bI_rg64 _)
  by_cases h14 : i.op = 14
  · rw [doM_14 h14]
    exact GoodR.put h hk hi (by omega) (bI_rg64 _)
  by_cases h15 : i.op = 15
  · rw [doM_15 h15]
    exact GoodR.put h hk hi (by omega) (bI_rg64 _)
  by_cases h17 : i.op = 17
  · rw [doM_17 h17]
    exact GoodR.put h hk hi (by omega) (w64_rg _)
  by_cases h18 : i.op = 18
  · rw [doM_18 h18]
    obtain ⟨j1, j2⟩ := withinJ h hi (.inl h18)
    exact GoodR.go h hk hi h.w h.regs h.rg h.irg h.ilen j1 j2
  by_cases h19 : i.op = 19
  · rw [doM_19 h19]
    obtain ⟨j1, j2⟩ := withinJ h hi (.inr h19)
    obtain ⟨n1, n2⟩ := GoodR.nxt h hk hi (by omega)
    exact GoodR.go h hk hi h.w h.regs h.rg h.irg h.ilen (by split <;> omega) (by split <;> omega)
  by_cases h20 : i.op = 20
  · rw [doM_20 h20]
    split
    · exact ⟨by omega, by omega⟩
    · exact ⟨enterM_wf h hk hi h20 (by assumption), rfl, [], by simp [enterM]⟩
  by_cases h21 : i.op = 21
  · rw [doM_21 h21]
    exact ⟨leaveM_wf h hk hi, by unfold leaveM; split <;> rfl, [], by unfold leaveM; split <;> simp⟩
  by_cases h22 : i.op = 22
  · rw [doM_22 h22]
    have hc := withinC hi h22
    split
    · obtain ⟨n1, n2⟩ := GoodR.nxt h hk hi (by omega)
      exact GoodR.go h hk hi ⟨h.wrg, h.wlen, takeH_wf h.heap _⟩ (by simp [h.regs]) (set_rg h.rg (takeH_rg _ (by omega))) h.irg h.ilen n1 n2
    · exact ⟨by omega, by omega⟩
  by_cases h23 : i.op = 23
  · rw [doM_23 h23]
    exact GoodR.wrd h hk hi (by omega) (dropM_some (c := c) _ _ h.w).2
  by_cases h24 : i.op = 24
  · rw [doM_24 h24]
    cases hin : m.input with
    | nil => exact ⟨by omega, by omega⟩
    | cons v r =>
      obtain ⟨n1, n2⟩ := GoodR.nxt h hk hi (by omega)
      have hr1 : ∀ x ∈ v :: r, Rg x := hin ▸ h.irg
      have hr2 : (v :: r).length ≤ 4096 := hin ▸ h.ilen
      exact GoodR.go h hk hi h.w (by simp [h.regs]) (set_rg h.rg (hr1 v (by simp))) (fun x hx => hr1 x (by simp [hx])) (by simp at hr2; omega) n1 n2
  by_cases h25 : i.op = 25
  · rw [doM_25 h25]
    obtain ⟨n1, n2⟩ := GoodR.nxt h hk hi (by omega)
    exact ⟨h.go (pr := m.printed ++ [regG m i.a]) hi.fn h.w h.regs h.rg h.irg h.ilen (fun x hx => by
      simp only [List.mem_append, List.mem_singleton] at hx
      rcases hx with hx | rfl
      · exact h.prg x hx
      · exact ra) (by simp; omega) n1 n2, rfl, [regG m i.a], rfl⟩
  omega
end
end Go.Proofs.YtddkkmdbolgnlaaDoor.Fw

namespace Go.Proofs.YtddkkmdbolgnlaaDoor.Fw
section
variable {rec : List Int → List ArD → Int → Int → Option (List Int × List ArD)} {b : BoxD} {r : List BoxD} {ws : List Int} {h : List ArD} {a : Int} {x : List Int × List ArD}
theorem dropBs_z (h0 : wordM ws (w64 (a + b.at_)) = 0) (hd : dropBs rec (b :: r) ws h a = some x) : dropBs rec r (setM ws (w64 (a + b.at_)) 0) h a = some x := by
  rw [dropBs, if_pos h0] at hd; exact hd
theorem dropBs_n (h0 : wordM ws (w64 (a + b.at_)) ≠ 0) (h1 : ¬ 0 ≤ b.shp) (hd : dropBs rec (b :: r) ws h a = some x) : dropBs rec r (setM ws (w64 (a + b.at_)) 0) (giveH h (wordM ws (w64 (a + b.at_)))) a = some x := by
  rw [dropBs, if_neg h0, if_neg h1] at hd; exact hd
theorem dropBs_p (h0 : wordM ws (w64 (a + b.at_)) ≠ 0) (h1 : 0 ≤ b.shp) (hd : dropBs rec (b :: r) ws h a = some x) : ∃ y, rec (setM ws (w64 (a + b.at_)) 0) h (wordM ws (w64 (a + b.at_))) b.shp = some y ∧ dropBs rec r y.1 (giveH y.2 (wordM ws (w64 (a + b.at_)))) a = some x := by
  rw [dropBs, if_neg h0, if_pos h1] at hd
  split at hd
  · rename_i y hy; exact ⟨y, hy, hd⟩
  · cases hd
theorem dropBs_wf (hrec : ∀ ws h a s x, WFw ws h → rec ws h a s = some x → WFw x.1 x.2) : ∀ (bs : List BoxD) (ws : List Int) (h : List ArD) (a : Int) (x : List Int × List ArD), WFw ws h → dropBs rec bs ws h a = some x → WFw x.1 x.2 := by
  intro bs
  induction bs with
  | nil => intro ws h a x hw hd; rw [dropBs] at hd; injection hd with hd; subst hd; exact hw
  | cons b r ih =>
    intro ws h a x hw hd
    have hw1 : WFw (setM ws (w64 (a + b.at_)) 0) h := ⟨setM_rg hw.rg rg0, setM_le hw.len, hw.heap⟩
    by_cases h0 : wordM ws (w64 (a + b.at_)) = 0
    · exact ih _ _ a x hw1 (dropBs_z h0 hd)
    · by_cases h1 : 0 ≤ b.shp
      · obtain ⟨y, hy, hd2⟩ := dropBs_p h0 h1 hd
        have hy2 := hrec _ _ _ _ y hw1 hy
        exact ih _ _ a x ⟨hy2.rg, hy2.len, giveH_wf hy2.heap _⟩ hd2
      · exact ih _ _ a x ⟨hw1.rg, hw1.len, giveH_wf hw1.heap _⟩ (dropBs_n h0 h1 hd)
end
theorem dropF_wf (c : CodeD) (n : Nat) : ∀ (ws : List Int) (h : List ArD) (a s : Int) (x : List Int × List ArD), WFw ws h → dropF c n ws h a s = some x → WFw x.1 x.2 := by
  induction n with
  | zero => intro ws h a s x _ hd; cases hd
  | succ n ih => intro ws h a s x hw hd; exact dropBs_wf ih _ ws h a x hw hd
theorem badBoxes_no {ls : List ShapeD} {words : Int} {bs : List BoxD} : ∀ {last : Int}, badBoxes ls words bs last = false → ∀ b ∈ bs, b.shp < ls.length := by
  induction bs with
  | nil => intro last _ b hb; simp at hb
  | cons x r ih =>
    intro last h b hb
    unfold badBoxes at h
    split at h
    · cases h
    · rename_i hx
      have hx1 : x.shp < ls.length := by
        simp only [badBox, Bool.or_eq_true, decide_eq_true_eq, not_or] at hx
        omega
      rcases List.mem_cons.1 hb with rfl | hb
      · exact hx1
      · split at h
        · exact ih h b hb
        · split at h
          · cases h
          · exact ih h b hb
theorem boxShp {ls : List ShapeD} (h : mayShapes ls = true) {s : ShapeD} (hs : s ∈ ls) : ∀ b ∈ s.boxes, b.shp < ls.length := by
  simp only [mayShapes, Bool.and_eq_true, Bool.not_eq_true', List.any_eq_false] at h
  have := h.2 s hs
  simp only [badShape, Bool.or_eq_true, not_or, Bool.not_eq_true] at this
  exact badBoxes_no this.1.1.1
theorem boxesOf_at {c : CodeD} {s : Int} {x : ShapeD} (h : c.shapes[s.toNat]? = some x) : boxesOf c s = x.boxes := by simp [boxesOf, h]
end Go.Proofs.YtddkkmdbolgnlaaDoor.Fw

namespace Go.Proofs.YtddkkmdbolgnlaaDoor.Fw
theorem St.part3 {Γ : Env} {I : Mem} {A B C : Chunk} {L : List Chunk} {w : World} (h : St Γ I ((A ++ (B ++ C)) :: L) w) : St Γ I (A :: B :: C :: L) w := ⟨h.ext, by simpa using h.own⟩
section
variable {mo : Md} {P : Program} {ops : Array Oper} {Q : Exit → Act → World → Prop} {rest : List Oper} {n : Nat} {ds : List Deferred} {l : List (Nat × Value)} {Γ : Env} {I : Mem} {L : List Chunk}
/-- A slot's value told otherwise. -/
theorem WL.reslot (k : Nat) {v v' : Value} (hl : look l k = some v) (e : v = v') (h : WL mo P ops Q rest n ds ((k, v') :: l) Γ I L) : WL mo P ops Q rest n ds l Γ I L :=
  WL.weakL (fun t u ht => by
    subst e
    rw [look_cons] at ht
    split at ht
    · rename_i e; subst e; rw [hl]; exact ht
    · exact ht) h
end
theorem mc_regG {h : MH} {main : Int} {m : MachD} (hr : m.regs.length = 16) (k : Int) (h0 : 0 ≤ k ∧ k ≤ 15) : nth (mc (mvOf h main m)) (0 + 6 + k.toNat * 1) = some (.int .i64 (regG m k)) := by
  rw [show 0 + 6 + k.toNat * 1 = 6 + k.toNat by omega, mc_reg (by show (ints m.regs).length = 16; rw [ints_len]; exact hr) (by omega)]
  show (ints m.regs)[k.toNat]? = _
  obtain ⟨v, hv⟩ : ∃ v, m.regs[k.toNat]? = some v := ⟨_, List.getElem?_eq_getElem (by omega)⟩
  simp [ints, regG, List.getD_eq_getElem?_getD, hv]
section
variable {P : Program} {ops : Array Oper} {Q : Exit → Act → World → Prop} {rest : List Oper} {n : Nat} {ds : List Deferred} {l : List (Nat × Value)} {Γ : Env} {I : Mem} {L L' : List Chunk}
variable {t : TypeId} {pos : String} {af : Array Edge}
/-- A store to a register. -/
theorem WL.store_reg (k : Nat) {T : TypeId} {x y : Operand} {b : Nat} {r v : Int} {X : MV} {rs : List Int} {E : TypeId} (hx : ev l x = some (.pointer (some ⟨b, 0 + 6 + r.toNat * 1, none⟩))) (hy : ev l y = some (.int .i64 v)) (hk : nth L k = some [(b, .cells (mc X).toArray E (0, 0))])
    (hm : szT P T = some 1) (hrs : X.regs = ints rs) (hr : rs.length = 16) (h0 : 0 ≤ r ∧ r ≤ 15)
    (hL : setO L k [(b, .cells (mc { X with regs := ints (rs.set r.toNat v) }).toArray E (0, 0))] = some L') (h : WL .seq P ops Q rest n ds l Γ I L') : WL .seq P ops Q (⟨none, .store T x y, t, pos, af, none⟩ :: rest) n ds l Γ I L := by
  have hx16 : X.regs.length = 16 := by rw [hrs, ints_len]; exact hr
  have e : setsL (mc X) (0 + 6 + r.toNat * 1) [Value.int .i64 v] = mc { X with regs := ints (rs.set r.toNat v) } := by
    rw [show 0 + 6 + r.toNat * 1 = 6 + r.toNat by omega, mcs_reg (by omega) hx16, hrs]
    congr 2
    simp [ints, List.map_set]
  exact WL.store_at k hx hy hk rfl hm rfl (by simp [one1]) (by rw [mc_len hx16]; simp; omega) (by rw [e]; exact hL) h
end
end Go.Proofs.YtddkkmdbolgnlaaDoor.Fw
namespace Go.Proofs.YtddkkmdbolgnlaaDoor.Fw
theorem takeH_bad {h : List ArD} {k : Nat} (he : (takeH h k).2.2 ≠ 0) : (takeH h k).1 = h := by
  revert he
  unfold takeH
  cases h[k]? with
  | none => intro _; rfl
  | some a =>
    dsimp only
    cases freeI a.taken with
    | none => intro _; rfl
    | some i => intro he; exact absurd rfl he
end Go.Proofs.YtddkkmdbolgnlaaDoor.Fw

namespace Go.Proofs.YtddkkmdbolgnlaaDoor.Fw
def ifaceT (P : Program) (T : TypeId) : Bool := match P.underlying T with
  | some (.interface _) => true
  | _ => false
section
variable {mo : Md} {P : Program} {ops : Array Oper} {Q : Exit → Act → World → Prop} {rest : List Oper} {n : Nat} {ds : List Deferred} {l : List (Nat × Value)} {Γ : Env} {I : Mem} {L L' : List Chunk}
variable {d : Nat} {t : TypeId} {pos : String} {af : Array Edge}
theorem run_equal_nil {T : TypeId} (hT : ifaceT P T = true) (w : World) : (Op.equal T .nilIface .nilIface).run P w = .ok true w := by
  unfold ifaceT at hT
  split at hT
  · rename_i e hu
    show (Op.equalIn (9999 + 1) T .nilIface .nilIface).run P w = _
    unfold Op.equalIn
    rw [run_bind, run_underlying hu]
    rfl
  · cases hT
theorem run_equal_iface {T T2 : TypeId} {v : Value} (hT : ifaceT P T = true) (w : World) : (Op.equal T (.iface T2 v) .nilIface).run P w = .ok false w := by
  unfold ifaceT at hT
  split at hT
  · rename_i e hu
    show (Op.equalIn (9999 + 1) T (.iface T2 v) .nilIface).run P w = _
    unfold Op.equalIn
    rw [run_bind, run_underlying hu]
    rfl
  · cases hT
theorem WL.nil_eqnil {T T' : TypeId} {x : Operand} (hx : ev l x = some .nilIface) (hT : ifaceT P T = true) (hd : Nat.ble (d + 1) n = true)
    (h : WL mo P ops Q rest n ds ((d, .bool true) :: l) Γ I L) : WL mo P ops Q (⟨some d, .binOp .eql T x (.const .nilIface) T', t, pos, af, none⟩ :: rest) n ds l Γ I L :=
  WL.val hd (fun a w hf _ => by
    have hc : a.eval (.const .nilIface) = .nilIface := rfl
    simp only [execOp, hf.ev hx, hc]
    refine run_v ?_
    have := run_equal_nil (P := P) hT w
    simp [eqGuard, binOp, this]) h
theorem WL.iface_eqnil {T T' T2 : TypeId} {x : Operand} {v : Value} (hx : ev l x = some (.iface T2 v)) (hT : ifaceT P T = true) (hd : Nat.ble (d + 1) n = true)
    (h : WL mo P ops Q rest n ds ((d, .bool false) :: l) Γ I L) : WL mo P ops Q (⟨some d, .binOp .eql T x (.const .nilIface) T', t, pos, af, none⟩ :: rest) n ds l Γ I L :=
  WL.val hd (fun a w hf _ => by
    have hc : a.eval (.const .nilIface) = .nilIface := rfl
    simp only [execOp, hf.ev hx, hc]
    refine run_v ?_
    have := run_equal_iface (P := P) (T2 := T2) (v := v) hT w
    simp [eqGuard, binOp, this]) h
/-- 'x.(T)' that holds. -/
theorem WL.assert_yes {T T0 : TypeId} {x : Operand} {v : Value} (hx : ev l x = some (.iface T v)) (hT : notIface P T = true) (hd : Nat.ble (d + 1) n = true)
    (h : WL mo P ops Q rest n ds ((d, .tuple [v, .bool true].toArray) :: l) Γ I L) : WL mo P ops Q (⟨some d, .typeAssert x T0 T true, t, pos, af, none⟩ :: rest) n ds l Γ I L :=
  WL.val hd (fun a w hf _ => by
    simp only [execOp, hf.ev hx]
    refine run_v ?_
    unfold notIface at hT
    unfold Instr.typeAssert
    split at hT
    · cases hT
    · rename_i u hne hu
      simp only
      rw [run_bind, run_underlying hu]
      cases u <;> first
        | (rename_i m; exact absurd rfl (hne m))
        | (simp only [if_pos]; rfl)
    · cases hT) h
/-- 'defer f()' of a function value. -/
theorem WL.deferV {f : FuncId} {first cap : List Value} {x : Operand} (hx : ev l x = some (.func (.func f) first.toArray cap.toArray))
    (h : WL .seq P ops Q rest n (⟨.fn (.func f) cap.toArray, first.toArray⟩ :: ds) l Γ I L) : WL .seq P ops Q (⟨none, .defer { callee := .value x, args := #[], argTypes := #[] }, t, pos, af, none⟩ :: rest) n ds l Γ I L := fun a w hf hs => by
  refine wpList_plain rfl fun K hK => ?_
  unfold Oper.wp
  have : (execOp a.eval ⟨none, .defer { callee := .value x, args := #[], argTypes := #[] }, t, pos, af, none⟩).run P w = .ok (.defer ⟨.fn (.func f) cap.toArray, first.toArray⟩) w := by
    simp only [execOp, resolve, hf.ev hx, Deferred.ofValue]
    rw [run_bind]
    simp [run_pure]
  rw [this]
  exact hK _ _ (h _ _ ⟨hf.size, by show _ :: a.defers = _; rw [hf.defers], hf.get⟩ hs)
end

/-- A deferred call's contract: the mode of the frame below, ahead and behind. -/
def SpecD (P : Program) (f : FuncId) (args : List Value) (I : Mem) (C : Chunk) (u u' : FrameMode) (R : Mem → Chunk → Prop) : Prop :=
  ∀ w0, I.le (memOf w0) → Own w0 (C.map Prod.fst) I C w0 → CallsD P f args.toArray u w0 (fun e v w => v = u' ∧ ∃ val I' C', e = .returned val ∧ Ext w0 I (C.map Prod.fst) I' w ∧ Own w0 (C.map Prod.fst) I' C' w ∧ R I' C')
/-- The end of a deferred closure. -/
def DPost (P : Program) (fn : Func) (Γ : Env) (R : Mem → Chunk → Prop) : Exit → Act → World → Prop
  | .normal, a, w | .ret, a, w => a.defers = [] ∧ (∃ v, (results fn a.tmps).run P w = .ok v w) ∧ ∃ I' C', Ext Γ.w0 Γ.I0 Γ.M I' w ∧ Own Γ.w0 Γ.M I' C' w ∧ R I' C'
  | _, _, _ => False
section
variable {P : Program} {n : Nat} {ds : List Deferred} {l : List (Nat × Value)} {Γ : Env} {I : Mem} {L L' : List Chunk}
theorem DPost.post {fn : Func} {R : Mem → Chunk → Prop} {c₀ : Frame} {cs : List Frame} {u' : FrameMode} {e : Exit} {a : Act} {w : World} {w0 : World} {M : List Nat} (h : DPost P fn ⟨w0, I, M⟩ R e a w) :
    bodyPostS P fn c₀ cs (fun e v w => v = u' ∧ ∃ val I' C', e = .returned val ∧ Ext w0 I M I' w ∧ Own w0 M I' C' w ∧ R I' C') e a ({ c₀ with mode := u' } :: cs) w := by
  cases e with
  | normal =>
    obtain ⟨hd, ⟨v, hv⟩, I', C', h1, h2, h3⟩ := h
    exact ⟨hd, u', rfl, v, hv, rfl, v, I', C', rfl, h1, h2, h3⟩
  | ret =>
    obtain ⟨hd, ⟨v, hv⟩, I', C', h1, h2, h3⟩ := h
    exact ⟨hd, u', rfl, v, hv, rfl, v, I', C', rfl, h1, h2, h3⟩
  | exit i => exact h.elim
  | goto i => exact h.elim
  | panic c => exact h.elim
  | outgrown => exact h.elim
/-- A closure that begins with 'recover()'. -/
theorem SpecD.recover {f : FuncId} {fn : Func} {args : List Value} {C : Chunk} {u u' : FrameMode} {v : Value} {R : Mem → Chunk → Prop} {c : Code} {id d : Nat} {t : TypeId} {pos : String} {af : Array Edge}
    (hok : P.funcs[f]? = some fn) (hb : fn.body = some (.seq (.region id [⟨some d, .call { callee := .builtin .recover, args := #[], argTypes := #[] }, t, pos, af, none⟩].toArray false) c)) (hn : Nat.ble args.length fn.ntmps = true) (hd : Nat.ble (d + 1) fn.ntmps = true)
    (hu : (u = .returning ∧ v = .nilIface ∧ u' = u) ∨ ∃ older, u = .panicking ({ v, recovered := false } :: older) ∧ u' = .panicking ({ v, recovered := true } :: older))
    (h : ∀ Γ : Env, WC P c (DPost P fn Γ R) fn.ntmps [] ((d, v) :: argL 0 args) Γ I [C]) : SpecD P f args I C u u' R := fun w0 hi ho => by
  refine callsD_of_wpS hok hb fun c₀ cs hc => ?_
  refine wpS_seq (wpS_region ?_)
  have hwp := h ⟨w0, I, C.map Prod.fst⟩ _ _ ((Fr.start args fn.ntmps hn).put hd v) ⟨Ext.start w0 I _ hi, by simpa using ho⟩
  have hrec : ∃ v0 cs', v0 = v ∧ cs' = ({ c₀ with mode := u' } :: cs) ∧ ((recoverD (c₀ :: cs) = none ∧ v0 = .nilIface ∧ cs' = c₀ :: cs) ∨ recoverD (c₀ :: cs) = some (v0, cs')) := by
    rcases hu with ⟨rfl, rfl, rfl⟩ | ⟨older, rfl, rfl⟩
    · refine ⟨_, _, rfl, rfl, .inl ⟨by simp [recoverD, hc], rfl, ?_⟩⟩
      have : ({ c₀ with mode := FrameMode.returning } : Frame) = c₀ := by rw [← hc]
      rw [this]
    · exact ⟨_, _, rfl, rfl, .inr (by simp [recoverD, hc])⟩
  have hrun : (execOp (Act.eval { tmps := args.toArray ++ Array.replicate (fn.ntmps - args.toArray.size) undef, defers := [] }) ⟨some d, .call { callee := .builtin .recover, args := #[], argTypes := #[] }, t, pos, af, none⟩).run P w0 = .ok .recover w0 := rfl
  have hnext : (c.wpS P (bodyPostS P fn c₀ cs (fun e v w => v = u' ∧ ∃ val I' C', e = .returned val ∧ Ext w0 I (C.map Prod.fst) I' w ∧ Own w0 (C.map Prod.fst) I' C' w ∧ R I' C')) (Act.put { tmps := args.toArray ++ Array.replicate (fn.ntmps - args.toArray.size) undef, defers := [] } (some d) v) ({ c₀ with mode := u' } :: cs) w0) :=
    wpS_of_wp (wp_mono hwp fun e a w q => q.post)
  show wpOpsS P _ _ [0] _ _ _
  unfold wpOpsS
  have hg : [(⟨some d, .call { callee := .builtin .recover, args := #[], argTypes := #[] }, t, pos, af, none⟩ : Oper)].toArray[0]? = some ⟨some d, .call { callee := .builtin .recover, args := #[], argTypes := #[] }, t, pos, af, none⟩ := rfl
  simp only [hg]
  rw [if_pos (by simp [Region.wanted])]
  rw [hrun]
  simp only
  obtain ⟨v0, cs', rfl, rfl, hr⟩ := hrec
  rcases hr with ⟨hr, rfl, hcs⟩ | hr
  · simp only [hr]
    rw [← hcs]
    exact hnext
  · simp only [hr]
    exact hnext
theorem WE.dpost {fn : Func} {R : Mem → Chunk → Prop} {C : Chunk} (hres : fn.results = #[]) (h : R I C) : WE (DPost P fn Γ R) .normal n [] l Γ I (C :: L) := fun a w hf hs =>
  ⟨hf.defers, ⟨_, results_none hres _ _ _⟩, I, C, hs.ext, hs.own.top, h⟩
/-- One deferred call at a body's end: behind it the call returns. -/
theorem leavesD {fn fn2 : Func} {f : FuncId} {cap : List Value} {C : Chunk} {u u' : FrameMode} {R1 : Mem → Chunk → Prop} {R : Value → Mem → Chunk → Prop} {a : Act} {w : World} (hs : St Γ I (C :: L) w) (hok : okFn P f fn2)
    (hspec : SpecD P f cap I C u u' R1) (hu : u ≠ .run) (hset : settle u' = .returning) (hres : fn.results = #[]) (h : ∀ I' C', I.le I' → R1 I' C' → R (.tuple #[]) I' C') :
    Leaves P fn a.tmps (RetOf Γ R) [⟨.fn (.func f) cap.toArray, #[]⟩] u w := by
  refine leaves_cons (f := f) (args := cap.toArray) hu ?_ ?_
  · simp only [invoke]
    rw [run_callFunc hok]
    simp
  · refine (hspec w hs.ext.imm hs.own.head).mono fun e v w' ⟨hv, val, I', C', he, hx, ho, hr⟩ => ?_
    subst he; subst hv
    simp only [hset]
    have hs' := hs.call hx ho
    exact ⟨_, results_none hres _ _ _, _, I', C', rfl, hs'.ext, hs'.own.top, h I' C' hx.le0 hr⟩
theorem WE.deferN {fn fn2 : Func} {f : FuncId} {cap : List Value} {C : Chunk} {u' : FrameMode} {R1 : Mem → Chunk → Prop} {R : Value → Mem → Chunk → Prop} (hok : okFn P f fn2) (hspec : SpecD P f cap I C .returning u' R1) (hset : settle u' = .returning) (hres : fn.results = #[])
    (h : ∀ I' C', I.le I' → R1 I' C' → R (.tuple #[]) I' C') : WE (bodyPostD P fn (RetOf Γ R)) .normal n [⟨.fn (.func f) cap.toArray, #[]⟩] l Γ I (C :: L) := fun a w hf hs => by
  show Leaves P fn a.tmps _ a.defers _ _
  rw [hf.defers]
  exact leavesD hs hok hspec (by simp) hset hres h
theorem WE.deferP {fn fn2 : Func} {f : FuncId} {cap : List Value} {C : Chunk} {ch : List PanicEntry} {u' : FrameMode} {R1 : Mem → Chunk → Prop} {R : Value → Mem → Chunk → Prop} (hok : okFn P f fn2) (hspec : SpecD P f cap I C (.panicking ch) u' R1) (hset : settle u' = .returning) (hres : fn.results = #[])
    (h : ∀ I' C', I.le I' → R1 I' C' → R (.tuple #[]) I' C') : WE (bodyPostD P fn (RetOf Γ R)) (.panic ch) n [⟨.fn (.func f) cap.toArray, #[]⟩] l Γ I (C :: L) := fun a w hf hs => by
  show Leaves P fn a.tmps _ a.defers _ _
  rw [hf.defers]
  exact leavesD hs hok hspec (by simp) hset hres h
theorem Spec.introD {f : FuncId} {fn : Func} {c : Code} {args : List Value} {C : Chunk} {R : Value → Mem → Chunk → Prop} (hok : P.funcs[f]? = some fn) (hb : fn.body = some c) (hn : Nat.ble args.length fn.ntmps = true)
    (h : ∀ Γ : Env, WC P c (bodyPostD P fn (RetOf Γ R)) fn.ntmps [] (argL 0 args) Γ I [C]) : Spec P f args I C R := fun w0 hi ho => by
  refine calls_of_wp_defers hok hb ?_
  exact h ⟨w0, I, C.map Prod.fst⟩ _ _ (Fr.start args fn.ntmps hn) ⟨Ext.start w0 I _ hi, by simpa using ho⟩
end
end Go.Proofs.YtddkkmdbolgnlaaDoor.Fw

namespace Go.Proofs.YtddkkmdbolgnlaaDoor.Fw
theorem WFm.more {c : CodeD} {m : MachD} (h : WFm c m) : WFm c { m with steps := m.steps + 1 } :=
  ⟨h.may, h.regs, h.rg, h.wrg, h.wlen, h.at0, h.at1, h.fn0, h.fn1, h.inFn, h.clen, h.frame0, h.frame1, h.call, h.irg, h.ilen, h.prg, (by have := h.plen; show (m.printed.length : Int) ≤ m.steps + 1; omega), h.kind, h.arg, h.trap, (by have := h.steps0; show (0 : Int) ≤ m.steps + 1; omega), h.heap⟩
theorem InsW.more {c : CodeD} {m : MachD} {i : InstrD} {f : FnD} (h : InsW c m i f) (k : Int) : InsW c { m with steps := k } i f := ⟨h.at_, h.fn, h.plain, h.within, h.next⟩
theorem St.join6 {Γ : Env} {I : Mem} {A B C D E F : Chunk} {L : List Chunk} {w : World} (h : St Γ I (A :: B :: C :: D :: E :: F :: L) w) : St Γ I ((A ++ (B ++ (C ++ (D ++ (E ++ F))))) :: L) w := ⟨h.ext, by simpa using h.own⟩
end Go.Proofs.YtddkkmdbolgnlaaDoor.Fw

namespace Go.Proofs.YtddkkmdbolgnlaaDoor.Fw
section
variable {P : Program} {ops : Array Oper} {Q : Exit → Act → World → Prop} {n : Nat} {ds : List Deferred} {l : List (Nat × Value)} {Γ : Env} {I Iw : Mem} {L Lu : List Chunk}
/-- The rest of a region: 'ld': what has come up; 'Iw', 'Lu': what nobody in the region touches. -/
def WS2 (P : Program) (ops : Array Oper) (Q : Exit → Act → World → Prop) (Iw : Mem) (Lu : List Chunk) (f : Nat) (ld : Array Bool) (n : Nat) (ds : List Deferred) (l : List (Nat × Value)) (Γ : Env) (I : Mem) (L : List Chunk) : Prop :=
  ∀ a w, Fr a n ds l → St Γ I L w → St Γ Iw Lu w → Shut ops ld → HS P ops Q (fun _ w => St Γ Iw Lu w) f ld a w
theorem WS2.float {f k : Nat} {o : Oper} {ld ld' : Array Bool} (hk : ops[k]? = some o) (hs : Region.noSelect ops = true) (hin : inRegion ops ld k = true) (hld : ld.setIfInBounds k true = ld')
    (hQ : ∀ c a w, ¬ Q (.panic c) a w)
    (h : WL .pure P ops (fun _ a _ => ∀ w, St Γ I L w → St Γ Iw Lu w → Shut ops ld' → HS P ops Q (fun _ w => St Γ Iw Lu w) f ld' a w) [o] n ds l Γ Iw Lu) : WS2 P ops Q Iw Lu (f + 1) ld n ds l Γ I L := fun a w hf hst hw inv => by
  simp only [inRegion, Bool.and_eq_true] at hin
  obtain ⟨hr, hfr⟩ := hin
  subst hld
  have hr' : k ∈ Region.ready .any ops ld := by simpa using hr
  have := h a hf
  unfold wpPure at this
  split at this
  · rename_i hw'
    obtain ⟨v, hv, hK⟩ := this
    exact HS.first (S := fun _ w => St Γ Iw Lu w) hk (Region.noSelect_spec hs) (fun c a w hq => absurd hq (hQ c _ w)) (fun _ _ _ _ h => h) (fun _ _ => Iff.rfl) f ld a w inv (Region.free_spec hk hfr) hr' (.inl ⟨hw', hv⟩) hw (hK w hw w hst hw (inv.set hr'))
  · rename_i hw'
    exact HS.first (S := fun _ w => St Γ Iw Lu w) hk (Region.noSelect_spec hs) (fun c a w hq => absurd hq (hQ c _ w)) (fun _ _ _ _ h => h) (fun _ _ => Iff.rfl) f ld a w inv (Region.free_spec hk hfr) hr' (.inr ⟨by simpa using hw', rfl⟩) hw (this w hw w hst hw (inv.set hr'))
theorem WS2.onward {f : Nat} {ld : Array Bool} (h : WS2 P ops Q Iw Lu f ld n ds l Γ I L) : WE (fun _ a _ => ∀ w, St Γ I L w → St Γ Iw Lu w → Shut ops ld → HS P ops Q (fun _ w => St Γ Iw Lu w) f ld a w) .normal n ds l Γ Iw Lu := fun a _ hf _ w hs => h a w hf hs
def Nx2 (P : Program) (ops : Array Oper) (Q : Exit → Act → World → Prop) (W : World → Prop) (f : Nat) (ld : Array Bool) : Exit → Act → World → Prop
  | .normal, a, w => Shut ops ld → W w ∧ HS P ops Q (fun _ w => W w) f ld a w
  | _, _, _ => False
theorem WS2.one {f k : Nat} {o : Oper} {ld : Array Bool} (hk : ops[k]? = some o) (hin : k ∈ Region.ready .any ops ld)
    (h : WL .seq P ops (Nx2 P ops Q (St Γ Iw Lu) f (ld.setIfInBounds k true)) [o] n ds l Γ I L) : ∀ a w, Fr a n ds l → St Γ I L w → Shut ops ld → wpOp P ops Q k (fun a' w' => St Γ Iw Lu w' ∧ HS P ops Q (fun _ w => St Γ Iw Lu w) f (ld.setIfInBounds k true) a' w') a w := fun a w hf hst inv => by
  have hsh : Shut ops (ld.setIfInBounds k true) := inv.set hin
  have h1 := h a w hf hst
  have fin : ∀ a' w', Nx2 P ops Q (St Γ Iw Lu) f (ld.setIfInBounds k true) .normal a' w' → St Γ Iw Lu w' ∧ HS P ops Q (fun _ w => St Γ Iw Lu w) f (ld.setIfInBounds k true) a' w' := fun a' w' hn => hn hsh
  unfold wpList at h1
  unfold wpOp
  simp only [hk]
  split at h1
  · rename_i hwn
    rw [if_pos hwn]
    rcases h1 with h1 | ⟨_, _, _, h2⟩
    · left
      unfold Oper.wp at h1 ⊢
      cases hr : (execOp a.eval o).run P w with
      | ok nx w' =>
        rw [hr] at h1
        cases nx with
        | enter g args =>
          refine Calls.mono h1 fun e w'' he => ?_
          cases e with
          | returned u => exact fin _ _ he
          | panicked c => exact absurd he id
          | outgrown => exact absurd he (fun ⟨_, _, h⟩ => h)
        | row r args => exact _root_.Go.Rows.mono h1 fun u w'' he => fin _ _ he
        | value v => exact fin _ _ h1
        | skip => exact fin _ _ h1
        | «defer» d => exact fin _ _ h1
        | _ => exact absurd h1 id
      | halt x w' =>
        rw [hr] at h1
        cases x <;> exact absurd h1 id
    · exact absurd h2 id
  · rename_i hwn
    rw [if_neg hwn]
    exact fin _ _ h1
theorem WS2.touch {f k : Nat} {o : Oper} {ld ld' : Array Bool} (hk : ops[k]? = some o) (hin : Region.ready .any ops ld = [k]) (hld : ld.setIfInBounds k true = ld')
    (h : WL .seq P ops (Nx2 P ops Q (St Γ Iw Lu) f ld') [o] n ds l Γ I L) : WS2 P ops Q Iw Lu (f + 1) ld n ds l Γ I L := fun a w hf hst _ inv => by
  subst hld
  refine ⟨fun h => (by rw [h] at hin; cases hin), fun j hj => ?_⟩
  rw [hin] at hj
  have : j = k := by simpa using hj
  subst this
  exact WS2.one hk (by rw [hin]; simp) h a w hf hst inv
theorem WS2.touch2 {f k j : Nat} {o p : Oper} {ld ld' ld'' : Array Bool} (hk : ops[k]? = some o) (hj : ops[j]? = some p) (hin : Region.ready .any ops ld = [k, j]) (hld : ld.setIfInBounds k true = ld') (hld2 : ld.setIfInBounds j true = ld'')
    (h : WL .seq P ops (Nx2 P ops Q (St Γ Iw Lu) f ld') [o] n ds l Γ I L) (h2 : WL .seq P ops (Nx2 P ops Q (St Γ Iw Lu) f ld'') [p] n ds l Γ I L) : WS2 P ops Q Iw Lu (f + 1) ld n ds l Γ I L := fun a w hf hst _ inv => by
  subst hld; subst hld2
  refine ⟨fun h => (by rw [h] at hin; cases hin), fun i hi => ?_⟩
  rw [hin] at hi
  simp only [List.mem_cons, List.not_mem_nil, or_false] at hi
  rcases hi with rfl | rfl
  · exact WS2.one hk (by rw [hin]; simp) h a w hf hst inv
  · exact WS2.one hj (by rw [hin]; simp) h2 a w hf hst inv
theorem WS2.next {f : Nat} {ld : Array Bool} {I' : Mem} {L' : List Chunk} (hW : ∀ w, St Γ I' L' w → St Γ Iw Lu w) (h : WS2 P ops Q Iw Lu f ld n ds l Γ I' L') : WE (Nx2 P ops Q (St Γ Iw Lu) f ld) .normal n ds l Γ I' L' := fun a w hf hs hsh =>
  ⟨hW w hs, h a w hf hs (hW w hs) hsh⟩
theorem WS2.doneC {ld : Array Bool} (hin : Region.ready .any ops ld = []) (h : WE Q .normal n ds l Γ I L) : WS2 P ops (calm Q) Iw Lu 0 ld n ds l Γ I L := fun a w hf hst _ _ => ⟨hin, h a w hf hst⟩
theorem WC.region_staged2 {id : Nat} {os : List Oper} (ks : List Nat) (hmo : P.follows .mixedOrders = true) (hk : noTwice ks = true) (hL : pickL ks L = some Lu)
    (h : Γ.I0.le I → WS2 P os.toArray (calm Q) I Lu os.length (Array.replicate os.length false) n ds l Γ I L) : WC P (.region id os.toArray true) Q n ds l Γ I L := fun a w hf hs => by
  have hs' := hs.drew (w.drawn + 1)
  have h1 := h hs'.ext.le0 a _ hf hs' (hs'.pick ks hk hL) (by simpa using Shut.start (ops := os.toArray))
  refine Go.wp_mono (wp_region_any hmo (by simpa using HS.any _ _ _ _ h1)) fun e a w he => ?_
  cases e <;> first | exact he | exact absurd he (fun h => h)
/-- A cut behind a piece of code. -/
theorem WC.cutAt {X : Type} (S : X → List (Nat × Value) × Mem × List Chunk) (inv : X → Prop) {x y : Code}
    (h : WC P x (Exit.then (Mid S inv n ds Γ) Q) n ds l Γ I L) (hy : ∀ z, inv z → WC P y Q n ds (S z).1 Γ (S z).2.1 (S z).2.2) : WC P x (Exit.then (fun a w => y.wp P Q a w) Q) n ds l Γ I L :=
  fun a w hf hs => wp_mono (h a w hf hs) fun e a' w' q => by
    cases e with
    | normal => obtain ⟨z, hz, hf', hs'⟩ := q; exact hy z hz a' w' hf' hs'
    | _ => exact q
end
/-! ### Slices laid aside -/
/-- Cells that stay, from an address on. -/
def RowA (I : Mem) (A : Option Addr) (cs : List Value) : Prop := cs = [] ∨ ∃ b, A = some ⟨b, 0, none⟩ ∧ I.row b 0 cs
theorem RowA.mono {I J : Mem} {A : Option Addr} {cs : List Value} (h : RowA I A cs) (hIJ : I.le J) : RowA J A cs := by
  rcases h with h | ⟨b, h1, h2⟩
  · exact .inl h
  · exact .inr ⟨b, h1, Mem.le.row hIJ h2⟩
theorem RowA.srcO {I : Mem} {A : Option Addr} {cs : List Value} (h : RowA I A cs) : SrcO I [] A cs := by
  rcases h with h | ⟨b, h1, h2⟩
  · exact .inr (.inl h)
  · exact .inl ⟨b, 0, h1, h2⟩
section
variable {P : Program} {ops : Array Oper} {Q : Exit → Act → World → Prop} {rest : List Oper} {n : Nat} {ds : List Deferred} {l : List (Nat × Value)} {Γ : Env} {I : Mem} {L : List Chunk}
theorem St.freezeS {sz : Nat} {cs : List Value} {A : Option Addr} {cap : Nat} {C : Chunk} {w : World} (hC : SlO sz cs A cap C) (h : St Γ I (C :: L) w) : ∃ I', I.le I' ∧ RowA I' A cs ∧ St Γ I' L w := by
  rcases hC with ⟨rfl, rfl, rfl, rfl⟩ | ⟨b, pad, E, rfl, rfl, hp, _⟩
  · exact ⟨I, Mem.le_refl _, .inl rfl, h.drop⟩
  · refine ⟨_, Mem.le_add fun p hp => ?_, .inr ⟨b, rfl, fun i v hi => ?_⟩, h.freeze⟩
    · simp only [List.mem_singleton] at hp; subst hp
      exact h.own.out (b, _) (by simp)
    · refine Mem.cell_of (c := cs ++ pad) (E := E) (fz := (0, 0)) (Mem.add_mem (by simp) (by simp)) ?_
      rw [nth_eq, Nat.zero_add, List.getElem?_append_left (List.getElem?_eq_some_iff.1 hi).1]; exact hi
theorem WE.freezeS {sz : Nat} {cs : List Value} {A : Option Addr} {cap : Nat} {C : Chunk} {e : Exit} (hC : SlO sz cs A cap C) (h : ∀ I', I.le I' → RowA I' A cs → WE Q e n ds l Γ I' L) : WE Q e n ds l Γ I (C :: L) := fun a w hf hs => by
  obtain ⟨I', h1, h2, h3⟩ := hs.freezeS hC
  exact h I' h1 h2 a w hf h3
theorem WL.freezeS {sz : Nat} {cs : List Value} {A : Option Addr} {cap : Nat} {C : Chunk} (hC : SlO sz cs A cap C) (h : ∀ I', I.le I' → RowA I' A cs → WL .seq P ops Q rest n ds l Γ I' L) : WL .seq P ops Q rest n ds l Γ I (C :: L) := fun a w hf hs => by
  obtain ⟨I', h1, h2, h3⟩ := hs.freezeS hC
  exact h I' h1 h2 a w hf h3
theorem WC.freezeS {sz : Nat} {cs : List Value} {A : Option Addr} {cap : Nat} {C : Chunk} {c : Code} (hC : SlO sz cs A cap C) (h : ∀ I', I.le I' → RowA I' A cs → WC P c Q n ds l Γ I' L) : WC P c Q n ds l Γ I (C :: L) := fun a w hf hs => by
  obtain ⟨I', h1, h2, h3⟩ := hs.freezeS hC
  exact h I' h1 h2 a w hf h3
end
theorem Rows.slAtA {α : Type} {R : Mem → α → List Value → Prop} {sz : Nat} {I : Mem} {xs : List α} {vss : List (List Value)} (h : Rows R sz I xs vss) (hsz : 0 < sz) {A : Option Addr} (hA : RowA I A vss.flatten) : SlAt R sz I xs A := fun i x hx => by
  have hlt : i < vss.length := by rw [h.len]; exact (List.getElem?_eq_some_iff.1 hx).1
  have hv : vss[i]? = some vss[i] := List.getElem?_eq_getElem hlt
  rcases hA with hA | ⟨b, rfl, hr⟩
  · have h1 := h.flen
    rw [hA, List.length_nil] at h1
    have h2 : 0 < xs.length * sz := Nat.mul_pos (by have := (List.getElem?_eq_some_iff.1 hx).1; omega) hsz
    omega
  · refine ⟨b, 0, vss[i], rfl, h.row _ (List.getElem_mem hlt), fun j v hj => ?_, h.rel i x _ hx hv⟩
    have := hr _ v (flat_get h.row hv hj)
    rw [Nat.zero_add, ← Nat.zero_add (i * sz + j)]
    exact this
def OneR {α : Type} (R : Mem → α → List Value → Prop) : Prop := ∀ (I : Mem) (x : α) (vs : List Value), R I x vs → vs.all one1 = true
theorem BoxR_one : OneR BoxR := fun _ _ vs h => by obtain ⟨rfl, _⟩ := h; rfl
theorem FnR_one : OneR FnR := fun _ _ vs h => by obtain ⟨rfl, _⟩ := h; rfl
theorem InstrR_one : OneR InstrR := fun _ _ vs h => by obtain ⟨rfl, _⟩ := h; rfl
theorem ShapeR_one : OneR ShapeR := fun _ _ vs h => by obtain ⟨A, cap, rfl, _⟩ := h; rfl
theorem Rows.one {α : Type} {R : Mem → α → List Value → Prop} (hR : OneR R) {sz : Nat} {I : Mem} {xs : List α} {vss : List (List Value)} (h : Rows R sz I xs vss) : vss.flatten.all one1 = true := by
  rw [List.all_eq_true]
  intro v hv
  obtain ⟨vs, h1, h2⟩ := List.mem_flatten.1 hv
  obtain ⟨i, hi⟩ := List.mem_iff_getElem?.1 h1
  have hlt : i < xs.length := by rw [← h.len]; exact (List.getElem?_eq_some_iff.1 hi).1
  exact List.all_eq_true.1 (hR I _ vs (h.rel i _ vs (List.getElem?_eq_getElem hlt) hi)) v h2
theorem SlO.len_le' {sz m : Nat} {cs : List Value} {A : Option Addr} {cap : Nat} {C : Chunk} (h : SlO sz cs A cap C) (hsz : 0 < sz) (hl : cs.length = m * sz) : m ≤ cap := by
  have := h.len_le
  rw [hl] at this
  exact Nat.le_of_mul_le_mul_right this hsz
/-! ### Runs -/
theorem codeN {I : Mem} {c : CodeD} {v1 v2 v3 : Value} (h : CodeC I c v1 v2 v3) : ∀ (k : Nat) (i : InstrD), c.list[k]? = some i → Rg i.n := fun k i hi => by
  obtain ⟨A, cap, _, _, _, hS⟩ := h.s3
  obtain ⟨b, off, vs, _, _, _, hR⟩ := hS k i hi
  exact hR.2.2.2.2.2
theorem stepM_wf {c : CodeD} {m : MachD} (hcn : ∀ (k : Nat) (i : InstrD), c.list[k]? = some i → Rg i.n) (h : WFm c m) (hk : m.kind = 1) : WFm c (stepM c m) ∧ (stepM c m).steps = m.steps + 1 ∧ ∃ l, (stepM c m).printed = m.printed ++ l := by
  obtain ⟨i, f, hi⟩ := h.ins hk
  have hp := h.plen
  have := doM_wf h.more hk (by show (m.printed.length : Int) + 1 ≤ m.steps + 1; omega) (hi.more (m.steps + 1)) (hcn _ i hi.at_)
  unfold stepM
  rw [hi.instrOf]
  cases hd : doM c { m with steps := m.steps + 1 } i with
  | ok m' => rw [hd] at this; exact this
  | trap t =>
    rw [hd] at this
    have hm := h.more
    exact ⟨⟨hm.may, hm.regs, hm.rg, hm.wrg, hm.wlen, hm.at0, hm.at1, hm.fn0, hm.fn1, (fun hk2 => by cases hk2), hm.clen, hm.frame0, hm.frame1, hm.call, hm.irg, hm.ilen, hm.prg, hm.plen, .inr (.inr rfl), hm.arg, this, hm.steps0, hm.heap⟩, rfl, [], by simp⟩
theorem runM_wf {c : CodeD} (hcn : ∀ (k : Nat) (i : InstrD), c.list[k]? = some i → Rg i.n) (n : Nat) : ∀ {m : MachD}, WFm c m → WFm c (runM c n m) ∧ (runM c n m).steps ≤ m.steps + n ∧ m.steps ≤ (runM c n m).steps ∧ ∃ l, (runM c n m).printed = m.printed ++ l := by
  induction n with
  | zero => intro m h; exact ⟨h, by simp [runM], by simp [runM], [], by simp [runM]⟩
  | succ n ih =>
    intro m h
    rw [runM]
    split
    · rename_i hk
      obtain ⟨h1, h2, l1, h3⟩ := stepM_wf hcn h hk
      obtain ⟨h4, h5, h6, l2, h7⟩ := ih h1
      exact ⟨h4, by omega, by omega, l1 ++ l2, by rw [h7, h3, List.append_assoc]⟩
    · exact ⟨h, by omega, by omega, [], by simp⟩
theorem newM_wf {c : CodeD} {input : List Int} (hm : MayW c) (hi : ∀ r ∈ input, Rg r) (hl : input.length ≤ 4096) : WFm c (newM c input) := by
  have hwf := hm.wf
  have h0 := hwf.m0; have h1 := hwf.m1
  obtain ⟨f, hf⟩ : ∃ f, c.fns[c.main.toNat]? = some f := ⟨_, List.getElem?_eq_getElem (by omega)⟩
  have hff := hwf.fn _ f hf
  have hb := hwf.begin_lt h0 hf
  refine ⟨hm, rfl, regs0_rg, (fun r hr => by cases hr), (by simp [newM]), ?_, ?_, h0, h1, (fun _ g hg => ?_), (by simp [newM]), (by simp [newM]), (by simp [newM]), (fun j x hx => by simp [newM] at hx), hi, hl, (fun r hr => by cases hr), (by simp [newM]), .inl rfl, rg0, ⟨(by simp [newM]), (by simp [newM])⟩, (by simp [newM]), heap0_wf⟩
  · show 0 ≤ (fnOf c c.main).begin_
    rw [fnOf_at hf]; exact hff.1
  · show (fnOf c c.main).begin_ < _
    rw [fnOf_at hf]; exact hff.2.1
  · have hg' : c.fns[c.main.toNat]? = some g := hg
    rw [hf] at hg'; injection hg' with e; subst e
    show (fnOf c c.main).begin_ ≥ f.begin_ ∧ (fnOf c c.main).begin_ < endI c c.main
    rw [fnOf_at hf]
    exact ⟨Int.le_refl _, hb⟩
end Go.Proofs.YtddkkmdbolgnlaaDoor.Fw
namespace Go.Proofs.YtddkkmdbolgnlaaDoor.Fw
def outV (m : MachD) (A : Option Addr) (k : Nat) : Value := .agg [.int .u8 m.kind, .int .i64 m.answer, .int .u8 m.trap, .int .u8 0, .slice A m.printed.length k].toArray
theorem runM_done {c : CodeD} {m : MachD} {j k : Nat} (hj : j ≤ k) (h : j = k ∨ (runM c j m).kind ≠ 1) : runM c k m = runM c j m := by
  rcases h with rfl | h
  · rfl
  · rw [show k = j + (k - j) by omega, runM_add, runM_stop h]
end Go.Proofs.YtddkkmdbolgnlaaDoor.Fw

