/- A part of the proof: steps of the walk and laws that the claim's theorem rests on; each lemma states its own conditions. -/
import Derived.Test.YtddkkmdbolgnlaaDoorWalkA
import Derived.LoopN
import Derived.StillTail
import Derived.OrdersHeld
set_option linter.unusedVariables false
set_option linter.unusedSimpArgs false
namespace Go.Proofs.YtddkkmdbolgnlaaDoor.Fw

theorem Ext.less {w0 : World} {I0 I : Mem} {M : List Nat} {w : World} (h : Ext w0 I0 M I w) : Ext w0 I0 M I0 w :=
  ⟨Mem.le_trans h.le0 h.imm, Mem.le_refl _, fun _ h => .inl h, h.size, h.keep, h.os, h.tape, h.output⟩

/-- A contract that only tells what is answered. -/
def SpecV (P : Program) (f : FuncId) (args : List Value) (I : Mem) (v : Value) : Prop :=
  Spec P f args I [] (fun v' I' C' => v' = v ∧ I' = I ∧ C' = [])
/-- .. what is answered, and what is behind it in memory that stays. -/
def SpecR (P : Program) (f : FuncId) (args : List Value) (I : Mem) (R : Value → Mem → Prop) : Prop :=
  Spec P f args I [] (fun v' I' C' => C' = [] ∧ R v' I')

def pickL {α : Type} : List Nat → List α → Option (List α)
  | [], _ => some []
  | k :: ks, l => match nth l k with
    | some c => match pickL ks l with
      | some r => some (c :: r)
      | none => none
    | none => none

/-- No number twice, each below n. -/
def noTwice : List Nat → Bool
  | [] => true
  | k :: ks => !(ks.any (Nat.beq k)) && noTwice ks

theorem noTwice_nodup {ks : List Nat} (h : noTwice ks = true) : ks.Nodup := by
  induction ks with
  | nil => simp
  | cons k ks ih =>
    simp only [noTwice, Bool.and_eq_true, Bool.not_eq_true', List.any_eq_false] at h
    refine List.nodup_cons.2 ⟨fun hm => ?_, ih h.2⟩
    have := h.1 k hm
    simp at this

theorem pickL_getElem {α : Type} {ks : List Nat} {l r : List α} (h : pickL ks l = some r) : r = ks.filterMap (l[·]?) ∧ ∀ k ∈ ks, k < l.length := by
  induction ks generalizing r with
  | nil => simp [pickL] at h; subst h; simp
  | cons k ks ih =>
    simp only [pickL] at h
    split at h
    · rename_i c hc
      split at h
      · rename_i r' hr
        injection h with h; subst h
        obtain ⟨h1, h2⟩ := ih hr
        rw [nth_eq] at hc
        refine ⟨by simp [hc, ← h1], fun j hj => ?_⟩
        rcases List.mem_cons.1 hj with rfl | hj
        · exact (List.getElem?_eq_some_iff.1 hc).1
        · exact h2 j hj
      · simp at h
    · simp at h

theorem pick_perm {α : Type} (l : List α) (ks : List Nat) (hn : ks.Nodup) (hk : ∀ k ∈ ks, k < l.length) : ∃ r, (ks.filterMap (l[·]?) ++ r).Perm l := by
  have h1 : ks.filterMap (l[·]?) = (ks.map fun k => l[k]?).filterMap id := by simp [List.filterMap_map]
  have h2 : ks.Subset (List.range l.length) := fun k hm => List.mem_range.2 (hk k hm)
  obtain ⟨r, hr⟩ : ∃ r, (ks ++ r).Perm (List.range l.length) := by
    have key : ∀ (ks m : List Nat), ks.Nodup → (∀ k ∈ ks, k ∈ m) → ∃ r, (ks ++ r).Perm m := by
      intro ks
      induction ks with
      | nil => intro m _ _; exact ⟨m, List.Perm.refl _⟩
      | cons k ks ih =>
        intro m hn hm
        obtain ⟨hk1, hk2⟩ := List.nodup_cons.1 hn
        obtain ⟨r, hr⟩ := ih (m.erase k) hk2 (fun j hj => (List.mem_erase_of_ne (fun e => hk1 (by rw [← e]; exact hj))).2 (hm j (List.mem_cons_of_mem _ hj)))
        exact ⟨r, (List.Perm.cons k hr).trans (List.perm_cons_erase (hm k List.mem_cons_self)).symm⟩
    exact key ks _ hn h2
  refine ⟨r.filterMap (l[·]?), ?_⟩
  have h3 := hr.filterMap (l[·]?)
  rw [List.filterMap_append] at h3
  refine h3.trans ?_
  have : (List.range l.length).filterMap (l[·]?) = l := by
    apply List.ext_getElem?
    intro i
    have : ∀ (n : Nat) (l : List α), n ≤ l.length → (List.range n).filterMap (l[·]?) = l.take n := by
      intro n
      induction n with
      | zero => intro l _; simp
      | succ n ih =>
        intro l hl
        rw [List.range_succ, List.filterMap_append, ih l (by omega)]
        simp [List.getElem?_eq_getElem (show n < l.length by omega)]
    rw [this _ l (Nat.le_refl _), List.take_length]
  rw [this]

theorem St.pick {Γ : Env} {I : Mem} {L L' : List Chunk} {w : World} (h : St Γ I L w) (ks : List Nat) (hk : noTwice ks = true) (hL : pickL ks L = some L') : St Γ I L' w := by
  obtain ⟨h1, h2⟩ := pickL_getElem hL
  obtain ⟨r, hr⟩ := pick_perm L ks (noTwice_nodup hk) h2
  rw [← h1] at hr
  have hp : St Γ I (L' ++ r) w := h.perm (hr.flatten)
  have : ∀ (r L' : List Chunk), St Γ I (L' ++ r) w → St Γ I L' w := by
    intro r
    induction r with
    | nil => intro L' h; simpa using h
    | cons C r ih =>
      intro L' h
      have h2 : St Γ I (C :: (L' ++ r)) w := h.perm (by
        have : (L' ++ C :: r).Perm (C :: (L' ++ r)) := List.perm_middle
        exact this.symm.flatten)
      exact ih L' h2.drop
  exact this r L' hp

section
variable {mo : Md} {P : Program} {ops : Array Oper} {Q : Exit → Act → World → Prop} {rest : List Oper} {n : Nat} {ds : List Deferred} {l : List (Nat × Value)} {Γ : Env} {I : Mem} {L L' : List Chunk}
variable {d : Nat} {t : TypeId} {pos : String} {af : Array Edge}

theorem WL.pick (ks : List Nat) (hk : noTwice ks = true) (hL : pickL ks L = some L') (h : WL .seq P ops Q rest n ds l Γ I L') : WL .seq P ops Q rest n ds l Γ I L :=
  WL.perm (fun _ hs => hs.pick ks hk hL) h
theorem WC.pick {c : Code} (ks : List Nat) (hk : noTwice ks = true) (hL : pickL ks L = some L') (h : WC P c Q n ds l Γ I L') : WC P c Q n ds l Γ I L :=
  WC.perm (fun _ hs => hs.pick ks hk hL) h
theorem WE.pick {e : Exit} (ks : List Nat) (hk : noTwice ks = true) (hL : pickL ks L = some L') (h : WE Q e n ds l Γ I L') : WE Q e n ds l Γ I L :=
  WE.perm (fun _ hs => hs.pick ks hk hL) h

/-! ### The part that stays grows -/
theorem WL.freeze {C : Chunk} (h : WL .seq P ops Q rest n ds l Γ (I.add C) L) : WL .seq P ops Q rest n ds l Γ I (C :: L) := fun a w hf hs => h a w hf hs.freeze
theorem WC.freeze {c : Code} {C : Chunk} (h : WC P c Q n ds l Γ (I.add C) L) : WC P c Q n ds l Γ I (C :: L) := fun a w hf hs => h a w hf hs.freeze
theorem WE.freeze {e : Exit} {C : Chunk} (h : WE Q e n ds l Γ (I.add C) L) : WE Q e n ds l Γ I (C :: L) := fun a w hf hs => h a w hf hs.freeze
/-- What is known of a chunk that is laid aside: what was known stays known. -/
theorem WC.freeze' {c : Code} {b : Nat} {o : Obj} (h : ∀ I', I.le I' → I' b = some o → WC P c Q n ds l Γ I' L) : WC P c Q n ds l Γ I ([(b, o)] :: L) := fun a w hf hs => by
  refine h (I.add [(b, o)]) (Mem.le_add fun p hp => ?_) (Mem.add_mem (by simp) (by simp)) a w hf hs.freeze
  simp only [List.mem_singleton] at hp; subst hp
  exact hs.own.out (b, o) (by simp)
theorem WL.freeze' {b : Nat} {o : Obj} (h : ∀ I', I.le I' → I' b = some o → WL .seq P ops Q rest n ds l Γ I' L) : WL .seq P ops Q rest n ds l Γ I ([(b, o)] :: L) := fun a w hf hs => by
  refine h (I.add [(b, o)]) (Mem.le_add fun p hp => ?_) (Mem.add_mem (by simp) (by simp)) a w hf hs.freeze
  simp only [List.mem_singleton] at hp; subst hp
  exact hs.own.out (b, o) (by simp)

/-! ### Cuts within a region -/
theorem wpList_append (r1 r2 : List Oper) (a : Act) (w : World) (h : wpList P ops (Exit.then (fun a w => wpList P ops Q r2 a w) Q) r1 a w) : wpList P ops Q (r1 ++ r2) a w := by
  induction r1 generalizing a w with
  | nil => exact h
  | cons o r ih =>
    simp only [List.cons_append]
    unfold wpList at h ⊢
    split at h
    · rename_i hw
      rw [if_pos hw]
      rcases h with h | ⟨h1, a₀, w₀, h2⟩
      · left
        unfold Oper.wp at h ⊢
        cases hr : (execOp a.eval o).run P w with
        | ok nx w' =>
          rw [hr] at h
          cases nx <;> first
            | exact ih _ _ h
            | (exact h)
            | (refine h.mono fun e w'' q => ?_
               cases e with
               | returned v => exact ih _ _ q
               | panicked ch => exact q
               | outgrown => exact q)
            | (refine h.mono fun v w'' q => ih _ _ q)
        | halt hh w' =>
          rw [hr] at h
          cases hh <;> first | exact h | exact h.elim
      · exact .inr ⟨h1, a₀, w₀, h2⟩
    · rename_i hw
      rw [if_neg hw]
      exact ih _ _ h

theorem WL.cut {X : Type} (S : X → List (Nat × Value) × Mem × List Chunk) (inv : X → Prop) (r1 r2 : List Oper) (hr : rest = r1 ++ r2)
    (h : WL .seq P ops (Exit.then (Mid S inv n ds Γ) (Exit.then (fun a w => wpList P ops Q r2 a w) Q)) r1 n ds l Γ I L)
    (h2 : ∀ z, inv z → WL .seq P ops Q r2 n ds (S z).1 Γ (S z).2.1 (S z).2.2) : WL .seq P ops Q rest n ds l Γ I L := fun a w hf hs => by
  subst hr
  refine wpList_append r1 r2 a w ?_
  have := h a w hf hs
  have hm : ∀ (r : List Oper) (Q1 Q2 : Exit → Act → World → Prop), (∀ e a w, Q1 e a w → Q2 e a w) → ∀ a w, wpList P ops Q1 r a w → wpList P ops Q2 r a w := by
    intro r Q1 Q2 hq
    induction r with
    | nil => intro a w h; exact hq _ _ _ h
    | cons o r ih =>
      intro a w h
      unfold wpList at h ⊢
      split at h
      · rename_i hw
        rw [if_pos hw]
        rcases h with h | ⟨h1, a₀, w₀, h2⟩
        · left
          unfold Oper.wp at h ⊢
          cases hr : (execOp a.eval o).run P w with
          | ok nx w' =>
            rw [hr] at h
            cases nx <;> first
              | exact ih _ _ h
              | (exact h)
              | (refine h.mono fun e w'' q => ?_
                 cases e with
                 | returned v => exact ih _ _ q
                 | panicked ch => exact hq _ _ _ q
                 | outgrown => obtain ⟨a1, w1, q⟩ := q; exact ⟨a1, w1, hq _ _ _ q⟩)
              | (refine h.mono fun v w'' q => ih _ _ q)
          | halt hh w' =>
            rw [hr] at h
            cases hh <;> first | exact hq _ _ _ h | exact h.elim
        · exact .inr ⟨h1, a₀, w₀, hq _ _ _ h2⟩
      · rename_i hw
        rw [if_neg hw]
        exact ih _ _ h
  refine hm r1 _ _ (fun e a w q => ?_) a w this
  cases e with
  | normal => obtain ⟨z, hz, hf', hs'⟩ := q; exact h2 z hz a w hf' hs'
  | _ => exact q

/-! ### Calls by the lighter contracts -/
/-- A call of a function value by the light contract. -/
theorem WL.callVal [mo.Calls] {f : FuncId} {fn : Func} {first cap args : List Value} {x : Operand} {xs : List Operand} {Ts : Array TypeId} {v : Value} (hok : okFn P f fn)
    (hx : ev l x = some (.func (.func f) first.toArray cap.toArray)) (ha : evs l xs = some args) (hd : Nat.ble (d + 1) n = true) (hspec : SpecV P f (first ++ args ++ cap) I v)
    (h : WL mo P ops Q rest n ds ((d, v) :: l) Γ I L) : WL mo P ops Q (⟨some d, .call { callee := .value x, args := xs.toArray, argTypes := Ts }, t, pos, af, none⟩ :: rest) n ds l Γ I L :=
  match mo, ‹mo.Calls›, h with
  | .pure, hc, _ => absurd rfl hc.ne
  | .seq, _, h => WL.perm (L' := [] :: L) (fun _ hs => hs.nilTop)
    (WL.call_any hok rfl hx rfl ha hd hspec fun v' I' C' _ ⟨h1, h2, h3⟩ => by
      subst h1; subst h2; subst h3
      exact WL.perm (L' := L) (fun _ hs => hs.drop) h)
  | .any, _, h => fun a hf => by
    refine wpQuiet_step fun K hK => ?_
    rw [if_pos (by simp [Region.wanted])]
    refine ⟨v, fun w hs => ?_, hK _ (h _ (hf.put hd v))⟩
    unfold Oper.quietAt
    simp only [execOp]
    rw [run_callValue (args := args) hok rfl (hf.ev hx) (hf.evs ha)]
    refine ⟨rfl, ?_⟩
    refine (hspec w hs.ext.imm (Own.nil _ _ _ _)).mono fun e w' ⟨v', I', C', he, hx', ho', h1, h2, h3⟩ => ?_
    subst h1; subst h2; subst h3
    exact ⟨he, (hs.nilTop.call (C := []) hx' ho').drop⟩

theorem WL.callV [mo.Calls] {f : FuncId} {fn : Func} {args : List Value} {xs : List Operand} {Ts : Array TypeId} {v : Value} (hok : okFn P f fn)
    (ha : evs l xs = some args) (hd : Nat.ble (d + 1) n = true) (hspec : SpecV P f args I v)
    (h : WL mo P ops Q rest n ds ((d, v) :: l) Γ I L) : WL mo P ops Q (⟨some d, .call { callee := .value (.func f), args := xs.toArray, argTypes := Ts }, t, pos, af, none⟩ :: rest) n ds l Γ I L :=
  WL.callVal (first := []) (cap := []) (x := .func f) hok rfl ha hd (by simpa using hspec) h
theorem WL.callR {f : FuncId} {fn : Func} {args : List Value} {xs : List Operand} {Ts : Array TypeId} {R : Value → Mem → Prop} (hok : okFn P f fn)
    (ha : evs l xs = some args) (hd : Nat.ble (d + 1) n = true) (hspec : SpecR P f args I R)
    (h : ∀ v I', I.le I' → R v I' → WL .seq P ops Q rest n ds ((d, v) :: l) Γ I' L) : WL .seq P ops Q (⟨some d, .call { callee := .value (.func f), args := xs.toArray, argTypes := Ts }, t, pos, af, none⟩ :: rest) n ds l Γ I L :=
  WL.call0 hok ha hd hspec fun v' I' C' hI ⟨h1, h2⟩ => by
    subst h1
    exact WL.perm (L' := L) (fun _ hs => hs.drop) (h v' I' hI h2)
/-! ### Starts and ends -/
theorem SpecV.intro {f : FuncId} {fn : Func} {c : Code} {args : List Value} {v : Value} (hok : P.funcs[f]? = some fn) (hb : fn.body = some c) (hn : Nat.ble args.length fn.ntmps = true)
    (h : ∀ w0 : World, WC P c (bodyPost P fn (RetOf ⟨w0, I, []⟩ (fun v' I' C' => v' = v ∧ I' = I ∧ C' = []))) fn.ntmps [] (argL 0 args) ⟨w0, I, []⟩ I []) : SpecV P f args I v := fun w0 hi ho => by
  refine calls_of_wp hok hb ?_
  exact h w0 _ _ (Fr.start args fn.ntmps hn) ⟨Ext.start w0 I _ hi, by simpa using ho⟩
theorem SpecR.intro {f : FuncId} {fn : Func} {c : Code} {args : List Value} {R : Value → Mem → Prop} (hok : P.funcs[f]? = some fn) (hb : fn.body = some c) (hn : Nat.ble args.length fn.ntmps = true)
    (h : ∀ w0 : World, WC P c (bodyPost P fn (RetOf ⟨w0, I, []⟩ (fun v' I' C' => C' = [] ∧ R v' I'))) fn.ntmps [] (argL 0 args) ⟨w0, I, []⟩ I []) : SpecR P f args I R := fun w0 hi ho => by
  refine calls_of_wp hok hb ?_
  exact h w0 _ _ (Fr.start args fn.ntmps hn) ⟨Ext.start w0 I _ hi, by simpa using ho⟩

def looks (l : List (Nat × Value)) : List Nat → Option (List Value)
  | [] => some []
  | k :: r => match look l k with
    | some v => match looks l r with
      | some vs => some (v :: vs)
      | none => none
    | none => none

theorem looks_get {l : List (Nat × Value)} {xs : List Nat} {vs : List Value} (h : looks l xs = some vs) {a : Act} (hf : Fr a n ds l) : xs.map (fun k => a.tmps.getD k undef) = vs := by
  induction xs generalizing vs with
  | nil => simp [looks] at h; subst h; rfl
  | cons k r ih =>
    simp only [looks] at h
    split at h
    · rename_i v hv
      split at h
      · rename_i us hu
        injection h with h; subst h
        have := hf.get _ _ hv
        have h1 : a.tmps.getD k undef = v := by simp [Array.getD_eq_getD_getElem?, this]
        rw [List.map_cons, ih hu, h1]
      · simp at h
    · simp at h

def tupleOf : List Value → Value
  | [v] => v
  | vs => .tuple vs.toArray

theorem results_tmps {fn : Func} (xs : List Nat) (h : fn.results = (xs.map ResultVar.tmp).toArray) (tmps : Array Value) (w : World) :
    (results fn tmps).run P w = .ok (tupleOf (xs.map fun k => tmps.getD k undef)) w := by
  unfold results
  rw [h]
  rw [run_bind]
  have key : ∀ (g : ResultVar → Sem Value), (∀ t, g (.tmp t) = pure (tmps.getD t undef)) → ∀ (xs : List Nat), (List.mapM g (xs.map ResultVar.tmp)).run P w = .ok (xs.map fun k => tmps.getD k undef) w := by
    intro g hg xs
    induction xs with
    | nil => rfl
    | cons x r ih =>
      simp only [List.map_cons, List.mapM_cons]
      rw [run_bind, hg]
      simp only [run_pure]
      rw [run_bind, ih]
      rfl
  rw [Array.mapM_eq_mapM_toList]
  rw [map_eq_pure_bind, run_bind, key _ (fun _ => rfl) xs]
  simp only [run_pure]
  match xs with
  | [] => rfl
  | [x] => rfl
  | x :: y :: r =>
    rw [dif_neg (by simp)]
    rfl

theorem WE.retV {fn : Func} {w0 : World} {I0 : Mem} {v v' : Value} (xs : List Nat) {vs : List Value} (hres : fn.results = (xs.map ResultVar.tmp).toArray) (hx : looks l xs = some vs) (hv : tupleOf vs = v') (h : v' = v) :
    WE (bodyPost P fn (RetOf ⟨w0, I0, []⟩ (fun v' I' C' => v' = v ∧ I' = I0 ∧ C' = []))) .ret n [] l ⟨w0, I0, []⟩ I L := fun a w hf hs => by
  refine ⟨hf.defers, _, results_tmps xs hres a.tmps w, v', I0, [], ?_, hs.ext.less, Own.nil _ _ _ _, h, rfl, rfl⟩
  rw [looks_get hx hf, hv]
theorem WE.retR {fn : Func} {w0 : World} {I0 : Mem} {v' : Value} {R : Value → Mem → Prop} (xs : List Nat) {vs : List Value} (hres : fn.results = (xs.map ResultVar.tmp).toArray) (hx : looks l xs = some vs) (hv : tupleOf vs = v') (h : R v' I) :
    WE (bodyPost P fn (RetOf ⟨w0, I0, []⟩ (fun v' I' C' => C' = [] ∧ R v' I'))) .ret n [] l ⟨w0, I0, []⟩ I L := fun a w hf hs => by
  refine ⟨hf.defers, _, results_tmps xs hres a.tmps w, v', I, [], ?_, hs.ext, Own.nil _ _ _ _, rfl, h⟩
  rw [looks_get hx hf, hv]
end
end Go.Proofs.YtddkkmdbolgnlaaDoor.Fw

namespace Go.Proofs.YtddkkmdbolgnlaaDoor.Fw

def keepO : List Nat → List (Nat × Value) → Option (List (Nat × Value))
  | [], _ => some []
  | k :: ks, l => match look l k with
    | some v => match keepO ks l with
      | some r => some ((k, v) :: r)
      | none => none
    | none => keepO ks l

theorem keepO_sub {ks : List Nat} {l l1 : List (Nat × Value)} (h : keepO ks l = some l1) : Sub l l1 := by
  induction ks generalizing l1 with
  | nil => simp [keepO] at h; subst h; trivial
  | cons k ks ih =>
    simp only [keepO] at h
    split at h
    · rename_i v hv
      split at h
      · rename_i r hr
        injection h with h; subst h
        exact ⟨hv, ih hr⟩
      · simp at h
    · exact ih h

theorem Sub.append {l a b : List (Nat × Value)} (h : Sub l a) (k : Sub l b) : Sub l (a ++ b) := by
  induction a with
  | nil => exact k
  | cons p r ih => exact ⟨h.1, ih h.2⟩

section
variable {mo : Md} {P : Program} {ops : Array Oper} {Q : Exit → Act → World → Prop} {rest : List Oper} {n : Nat} {ds : List Deferred} {l : List (Nat × Value)} {Γ : Env} {I : Mem} {L : List Chunk}
variable {d : Nat} {t : TypeId} {pos : String} {af : Array Edge}

theorem WC.loopG {X : Type} (ks : List Nat) {l1 : List (Nat × Value)} (hl1 : keepO ks l = some l1) (ov : X → List (Nat × Value)) (Iof : X → Mem) (Lof : X → List Chunk) (inv : X → Prop) (μ : X → Nat) (x0 : X) {c : Code} (h0 : inv x0) (hov : Sub l (ov x0)) (hI : Iof x0 = I) (hL : Lof x0 = L)
    (round : ∀ x, inv x → WC P c (Exit.then (Back (fun x => (ov x ++ l1, Iof x, Lof x)) inv μ x n ds Γ) Q) n ds (ov x ++ l1) Γ (Iof x) (Lof x)) : WC P (.loop c) Q n ds l Γ I L :=
  WC.loop (fun x => (ov x ++ l1, Iof x, Lof x)) inv μ x0 h0 (hov.append (keepO_sub hl1)) hI hL round
theorem WE.backG {X : Type} {l1 : List (Nat × Value)} {ov : X → List (Nat × Value)} {Iof : X → Mem} {Lof : X → List Chunk} {inv : X → Prop} {μ : X → Nat} {x : X} (x' : X) (hi : inv x') (hm : μ x' < μ x) (hov : Sub l (ov x')) (hl1 : Sub l l1) (hI : Iof x' = I) (hL : Lof x' = L) :
    WE (Exit.then (Back (fun x => (ov x ++ l1, Iof x, Lof x)) inv μ x n ds Γ) Q) .normal n ds l Γ I L :=
  WE.back x' hi hm (hov.append hl1) hI hL
/-- A loop that turns slots alone. -/
theorem WC.loopV {X : Type} (ks : List Nat) {l1 : List (Nat × Value)} (hl1 : keepO ks l = some l1) (ov : X → List (Nat × Value)) (inv : X → Prop) (μ : X → Nat) (x0 : X) {c : Code} (h0 : inv x0) (hov : Sub l (ov x0))
    (round : ∀ x, inv x → WC P c (Exit.then (Back (fun x => (ov x ++ l1, I, L)) inv μ x n ds Γ) Q) n ds (ov x ++ l1) Γ I L) : WC P (.loop c) Q n ds l Γ I L :=
  WC.loopG ks hl1 ov (fun _ => I) (fun _ => L) inv μ x0 h0 hov rfl rfl round
theorem WE.backV {X : Type} {l1 : List (Nat × Value)} {ov : X → List (Nat × Value)} {inv : X → Prop} {μ : X → Nat} {x : X} (x' : X) (hi : inv x') (hm : μ x' < μ x) (hov : Sub l (ov x')) (hl1 : Sub l l1) :
    WE (Exit.then (Back (fun x => (ov x ++ l1, I, L)) inv μ x n ds Γ) Q) .normal n ds l Γ I L :=
  WE.back x' hi hm (hov.append hl1) rfl rfl

theorem takeO_drop {α : Type} {N : Nat} {l a b : List α} (h1 : takeO N l = some a) (h2 : allO (dropN N l) = some b) : l = a ++ b := by
  have h3 := allO_some h2
  clear h2
  subst h3
  induction N generalizing l a with
  | zero => simp [takeO] at h1; subst h1; simp [dropN]
  | succ N ih =>
    cases l with
    | nil => simp [takeO] at h1
    | cons x r =>
      simp only [takeO] at h1
      split at h1
      · rename_i us hu
        injection h1 with h1; subst h1
        simp only [dropN, List.cons_append]
        congr 1
        exact ih hu
      · simp at h1
/-- A cut that names what some slots hold. -/
theorem WL.cutV {X : Type} (ks : List Nat) {l1 : List (Nat × Value)} (hl1 : keepO ks l = some l1) (ov : X → List (Nat × Value)) (inv : X → Prop) (N : Nat) {r1 r2 : List Oper} (h1 : takeO N rest = some r1) (h2 : allO (dropN N rest) = some r2)
    (h : WL .seq P ops (Exit.then (Mid (fun x => (ov x ++ l1, I, L)) inv n ds Γ) (Exit.then (fun a w => wpList P ops Q r2 a w) Q)) r1 n ds l Γ I L)
    (hz : ∀ z, inv z → WL .seq P ops Q r2 n ds (ov z ++ l1) Γ I L) : WL .seq P ops Q rest n ds l Γ I L :=
  have _ := hl1
  WL.cut (fun x => (ov x ++ l1, I, L)) inv r1 r2 (takeO_drop h1 h2) h hz
theorem WE.midV {X : Type} {l1 : List (Nat × Value)} {ov : X → List (Nat × Value)} {inv : X → Prop} (x : X) (hi : inv x) (hov : Sub l (ov x)) (hl1 : Sub l l1) :
    WE (Exit.then (Mid (fun x => (ov x ++ l1, I, L)) inv n ds Γ) Q) .normal n ds l Γ I L :=
  WE.mid x hi (hov.append hl1) rfl rfl
/-- .. between two pieces of code. -/
theorem WC.seq_cutV {X : Type} (ks : List Nat) {l1 : List (Nat × Value)} (hl1 : keepO ks l = some l1) (ov : X → List (Nat × Value)) (inv : X → Prop) {x y : Code}
    (h : WC P x (Exit.then (Mid (fun x => (ov x ++ l1, I, L)) inv n ds Γ) Q) n ds l Γ I L) (hy : ∀ z, inv z → WC P y Q n ds (ov z ++ l1) Γ I L) : WC P (.seq x y) Q n ds l Γ I L :=
  have _ := hl1
  WC.seq_cut (fun x => (ov x ++ l1, I, L)) inv h hy

/-! ### Strings, truth values, arrays -/
theorem WL.str_eql {T T' : TypeId} {x y : Operand} {a b : ByteArray} (hx : ev l x = some (.string a)) (hy : ev l y = some (.string b)) (hd : Nat.ble (d + 1) n = true)
    (h : WL mo P ops Q rest n ds ((d, .bool (a.toList == b.toList)) :: l) Γ I L) : WL mo P ops Q (⟨some d, .binOp .eql T x y T', t, pos, af, none⟩ :: rest) n ds l Γ I L :=
  WL.val hd (fun a w hf _ => by
    simp only [execOp, hf.ev hx, hf.ev hy]
    refine run_v ?_
    simp [eqGuard, binOp, Op.stringOp]) h
theorem WL.str_neq {T T' : TypeId} {x y : Operand} {a b : ByteArray} (hx : ev l x = some (.string a)) (hy : ev l y = some (.string b)) (hd : Nat.ble (d + 1) n = true)
    (h : WL mo P ops Q rest n ds ((d, .bool (!(a.toList == b.toList))) :: l) Γ I L) : WL mo P ops Q (⟨some d, .binOp .neq T x y T', t, pos, af, none⟩ :: rest) n ds l Γ I L :=
  WL.val hd (fun a w hf _ => by
    simp only [execOp, hf.ev hx, hf.ev hy]
    refine run_v ?_
    simp [eqGuard, binOp, Op.stringOp]) h

theorem run_equal_bool {T : TypeId} (hT : boolT P T = true) (a b : Bool) (w : World) : (Op.equal T (.bool a) (.bool b)).run P w = .ok (a == b) w := by
  unfold boolT at hT
  split at hT
  · rename_i hu
    show (Op.equalIn (9999 + 1) T (.bool a) (.bool b)).run P w = _
    unfold Op.equalIn
    rw [run_bind, run_underlying hu]
    rfl
  · simp at hT
theorem WL.bool_eql {T T' : TypeId} {x y : Operand} {a b : Bool} (hx : ev l x = some (.bool a)) (hy : ev l y = some (.bool b)) (hT : boolT P T = true) (hd : Nat.ble (d + 1) n = true)
    (h : WL mo P ops Q rest n ds ((d, .bool (a == b)) :: l) Γ I L) : WL mo P ops Q (⟨some d, .binOp .eql T x y T', t, pos, af, none⟩ :: rest) n ds l Γ I L :=
  WL.val hd (fun a w hf _ => by
    simp only [execOp, hf.ev hx, hf.ev hy]
    refine run_v ?_
    simp [eqGuard, binOp, run_equal_bool hT]) h
theorem WL.bool_neq {T T' : TypeId} {x y : Operand} {a b : Bool} (hx : ev l x = some (.bool a)) (hy : ev l y = some (.bool b)) (hT : boolT P T = true) (hd : Nat.ble (d + 1) n = true)
    (h : WL mo P ops Q rest n ds ((d, .bool (!(a == b))) :: l) Γ I L) : WL mo P ops Q (⟨some d, .binOp .neq T x y T', t, pos, af, none⟩ :: rest) n ds l Γ I L :=
  WL.val hd (fun a w hf _ => by
    simp only [execOp, hf.ev hx, hf.ev hy]
    refine run_v ?_
    simp [eqGuard, binOp, run_equal_bool hT]) h

theorem WL.index_str {T : TypeId} {x y : Operand} {s : ByteArray} {k : IntKind} {j : Int} (hx : ev l x = some (.string s)) (hy : ev l y = some (.int k j)) (hT : strT P T = true) (hd : Nat.ble (d + 1) n = true) (hj : 0 ≤ j ∧ j < (s.size : Int))
    (h : WL mo P ops Q rest n ds ((d, .int .u8 ((s.data.toList.getD j.toNat 0).toNat : Int)) :: l) Γ I L) : WL mo P ops Q (⟨some d, .index T x y, t, pos, af, none⟩ :: rest) n ds l Γ I L :=
  WL.val hd (fun a w hf _ => by
    simp only [execOp, hf.ev hx, hf.ev hy]
    refine run_v ?_
    unfold strT at hT
    split at hT
    · rename_i hu
      unfold Instr.index
      have hlt : j.toNat < s.size := by omega
      have hget : s[j.toNat]? = some (s.data.toList.getD j.toNat 0) := by
        have h1 : s[j.toNat]? = s.data[j.toNat]? := rfl
        rw [h1]
        have : j.toNat < s.data.toList.length := by simpa using hlt
        simp [List.getD_eq_getElem?_getD, List.getElem?_eq_getElem this]
      simp only [run_bind, run_asIntOf, run_underlying hu, if_pos hj.1, hget, run_pure]
    · simp at hT) h

/-- A place of an array behind a pointer. -/
theorem WL.indexAddr_arr {T E : TypeId} {x y : Operand} {b off : Nat} {len sz : Nat} {k : IntKind} {j : Int} (hx : ev l x = some (.pointer (some ⟨b, off, none⟩))) (hy : ev l y = some (.int k j)) (hT : arrT P T = some (len, E)) (hs : szT P E = some sz) (hd : Nat.ble (d + 1) n = true)
    (hj : 0 ≤ j ∧ j < (len : Int))
    (h : WL mo P ops Q rest n ds ((d, .pointer (some ⟨b, off + j.toNat * sz, none⟩)) :: l) Γ I L) : WL mo P ops Q (⟨some d, .indexAddr T x y, t, pos, af, none⟩ :: rest) n ds l Γ I L :=
  WL.val hd (fun a w hf _ => by
    simp only [execOp, hf.ev hx, hf.ev hy]
    refine run_v ?_
    unfold arrT at hT
    split at hT
    · rename_i m e hu
      injection hT with hT; injection hT with h1 h2; subst h1; subst h2
      unfold Instr.indexAt
      simp only [run_bind, run_asIntOf, run_underlying hu, Instr.sureAddr, run_pure, run_sizeOf hs, if_pos hj, add_at]
    · simp at hT) h

theorem WL.makeFunc {f : FuncId} {xs ys : List Operand} {vs us : List Value} (hx : evs l xs = some vs) (hy : evs l ys = some us) (hd : Nat.ble (d + 1) n = true)
    (h : WL mo P ops Q rest n ds ((d, .func (.func f) vs.toArray us.toArray) :: l) Γ I L) : WL mo P ops Q (⟨some d, .makeFunc (.func f) xs.toArray ys.toArray, t, pos, af, none⟩ :: rest) n ds l Γ I L :=
  WL.val hd (fun a w hf _ => by
    simp only [execOp, hf.evs hx, hf.evs hy]
    exact run_v rfl) h

/-- A struct, an array written out. -/
theorem WL.build {T : TypeId} {ps : List (Nat × Operand)} {vs : List (Nat × Value)} {r : Value} (hvs : (∀ a, Fr a n ds l → ps.toArray.map (fun p => (p.1, a.eval p.2)) = vs.toArray)) (hb : ∀ w, (Instr.build T vs.toArray).run P w = .ok r w) (hd : Nat.ble (d + 1) n = true)
    (h : WL mo P ops Q rest n ds ((d, r) :: l) Γ I L) : WL mo P ops Q (⟨some d, .build T ps.toArray, t, pos, af, none⟩ :: rest) n ds l Γ I L :=
  WL.val hd (fun a w hf _ => by
    simp only [execOp]
    refine run_v ?_
    have := hvs a hf
    rw [show (ps.toArray.map fun (i, x) => (i, a.eval x)) = vs.toArray from this]
    exact hb w) h

/-- Parts read. -/
def evps (l : List (Nat × Value)) : List (Nat × Operand) → Option (List (Nat × Value))
  | [] => some []
  | (i, x) :: r => match ev l x with
    | some v => match evps l r with
      | some vs => some ((i, v) :: vs)
      | none => none
    | none => none
theorem evps_get {xs : List (Nat × Operand)} {vs : List (Nat × Value)} (hx : evps l xs = some vs) (a : Act) (h : Fr a n ds l) : xs.toArray.map (fun p => (p.1, a.eval p.2)) = vs.toArray := by
  induction xs generalizing vs with
  | nil => simp [evps] at hx; subst hx; simp
  | cons p r ih =>
    obtain ⟨i, x⟩ := p
    simp only [evps] at hx
    split at hx
    · rename_i v hv
      split at hx
      · rename_i us hu
        injection hx with hx; subst hx
        have := ih hu
        simp only [List.map_toArray, List.map_cons] at this ⊢
        rw [h.ev hv]
        simp only [Array.mk.injEq] at this
        rw [this]
      · simp at hx
    · simp at hx
/-- A slice over a new row. -/
theorem WL.buildSlice {T : TypeId} {m : Nat} {ps : List (Nat × Operand)} {vs : List (Nat × Value)} {c : List Value} {E : TypeId} (hvs : evps l ps = some vs) (hb : ∀ w, (Instr.buildSlice T m vs.toArray).run P w = .ok (.slice (some ⟨w.heap.size, 0, none⟩) m m) { w with heap := w.heap.push (.cells c.toArray E) }) (hd : Nat.ble (d + 1) n = true)
    (h : ∀ b, WL .seq P ops Q rest n ds ((d, .slice (some ⟨b, 0, none⟩) m m) :: l) Γ I ([(b, .cells c.toArray E (0, 0))] :: L)) : WL .seq P ops Q (⟨some d, .buildSlice T m ps.toArray, t, pos, af, none⟩ :: rest) n ds l Γ I L :=
  WL.newBlock (f := fun a => .slice (some a) m m) hd (fun a w hf _ => by
    simp only [execOp]
    refine run_v ?_
    have := evps_get hvs a hf
    rw [show (ps.toArray.map fun (i, x) => (i, a.eval x)) = vs.toArray from this]
    exact hb w) h

/-- 's[low:]'. -/
theorem WL.slice_from {T E : TypeId} {x y : Operand} {b off len cap sz : Nat} {k : IntKind} {j : Int} (hx : ev l x = some (.slice (some ⟨b, off, none⟩) len cap)) (hy : ev l y = some (.int k j)) (hT : sliceT P T = some E) (hs : szT P E = some sz) (hd : Nat.ble (d + 1) n = true) (hj : 0 ≤ j ∧ j ≤ (len : Int))
    (h : WL mo P ops Q rest n ds ((d, .slice (if cap = j.toNat then some ⟨b, off, none⟩ else some ⟨b, off + j.toNat * sz, none⟩) (len - j.toNat) (cap - j.toNat)) :: l) Γ I L) : WL mo P ops Q (⟨some d, .slice T x (some y) none none, t, pos, af, none⟩ :: rest) n ds l Γ I L :=
  WL.val hd (fun a w hf _ => by
    simp only [execOp, hf.ev hx, Option.map_some, Option.map_none, hf.ev hy]
    refine run_v ?_
    unfold sliceT at hT
    split at hT
    · rename_i e hu
      injection hT with hT; subst hT
      unfold Instr.sliceAt
      rw [run_bind, run_underlying hu]
      simp only [Instr.slice, run_bind, run_underlying hu, Instr.sliceBounds, Instr.sliceBound, run_pure, run_asIntOf, if_pos hj, run_sizeOf hs, Option.map_some, add_at, Option.isSome_none]
    · simp at hT) h
end
end Go.Proofs.YtddkkmdbolgnlaaDoor.Fw
namespace Go.Proofs.YtddkkmdbolgnlaaDoor.Fw
section
variable {mo : Md} {P : Program} {ops : Array Oper} {Q : Exit → Act → World → Prop} {rest : List Oper} {n : Nat} {ds : List Deferred} {l : List (Nat × Value)} {Γ : Env} {I : Mem} {L : List Chunk}
variable {d : Nat} {t : TypeId} {pos : String} {af : Array Edge}
theorem WL.shl {T T' : TypeId} {x y : Operand} {k k' : IntKind} {m j : Int} (hx : ev l x = some (.int k m)) (hy : ev l y = some (.int k' j)) (hd : Nat.ble (d + 1) n = true) (hj : 0 ≤ j)
    (h : WL mo P ops Q rest n ds ((d, .int k (k.wrap (m * 2 ^ (min j.toNat k.bits)))) :: l) Γ I L) : WL mo P ops Q (⟨some d, .binOp .shl T x y T', t, pos, af, none⟩ :: rest) n ds l Γ I L :=
  WL.val hd (fun a w hf _ => by
    simp only [execOp, hf.ev hx, hf.ev hy]
    refine run_v ?_
    have : ¬ j < 0 := by omega
    simp [eqGuard, binOp, Op.shift, this]) h
theorem WL.shr {T T' : TypeId} {x y : Operand} {k k' : IntKind} {m j : Int} (hx : ev l x = some (.int k m)) (hy : ev l y = some (.int k' j)) (hd : Nat.ble (d + 1) n = true) (hj : 0 ≤ j)
    (h : WL mo P ops Q rest n ds ((d, .int k (m.fdiv (2 ^ (min j.toNat k.bits)))) :: l) Γ I L) : WL mo P ops Q (⟨some d, .binOp .shr T x y T', t, pos, af, none⟩ :: rest) n ds l Γ I L :=
  WL.val hd (fun a w hf _ => by
    simp only [execOp, hf.ev hx, hf.ev hy]
    refine run_v ?_
    have : ¬ j < 0 := by omega
    simp [eqGuard, binOp, Op.shift, this]) h
/-- '1 << k'. -/
theorem WL.shl_one {T T' : TypeId} {x y : Operand} {k : Nat} {k' : IntKind} (hx : ev l x = some (.int .i64 1)) (hy : ev l y = some (.int k' k)) (hd : Nat.ble (d + 1) n = true) (hk : k ≤ 62)
    (h : WL mo P ops Q rest n ds ((d, .int .i64 ((2 : Int) ^ k)) :: l) Γ I L) : WL mo P ops Q (⟨some d, .binOp .shl T x y T', t, pos, af, none⟩ :: rest) n ds l Γ I L :=
  WL.shl hx hy hd (by omega) (by
    have h1 : IntKind.i64.wrap (1 * 2 ^ (min (k : Int).toNat IntKind.i64.bits)) = (2 : Int) ^ k := by
      have h2 : min (k : Int).toNat IntKind.i64.bits = k := by
        show min (k : Int).toNat 64 = k
        rw [Int.toNat_natCast]; exact Nat.min_eq_left (by omega)
      rw [h2, Int.one_mul]
      refine IntWalk.i64_in _ ⟨?_, ?_⟩
      · have : (0 : Int) ≤ (2 : Int) ^ k := Int.le_of_lt (Int.pow_pos (by omega))
        omega
      · have h4 : (2 : Nat) ^ k ≤ 4611686018427387904 := Nat.le_trans (Nat.pow_le_pow_right (by omega) hk) (by decide)
        have h3 : ((2 : Int) ^ k) = (((2 : Nat) ^ k : Nat) : Int) := (Int.natCast_pow 2 k).symm
        rw [h3]; omega
    rw [h1]; exact h)
end
end Go.Proofs.YtddkkmdbolgnlaaDoor.Fw
namespace Go.Proofs.YtddkkmdbolgnlaaDoor.Fw
theorem ibeq0 (k : Nat) : ((k : Int) == 0) = (k == 0) := by
  rw [Bool.eq_iff_iff]; simp
theorem Mem.cell_of {I : Mem} {b off : Nat} {c : List Value} {E : TypeId} {fz : Nat × Nat} {v : Value} (h : I b = some (.cells c.toArray E fz)) (hv : nth c off = some v) : I.cell? ⟨b, off, none⟩ = some v := by
  unfold Mem.cell?
  rw [nth_eq] at hv
  simp [h, hv]
theorem Mem.row_of {I : Mem} {b : Nat} {c : List Value} {E : TypeId} {fz : Nat × Nat} (h : I b = some (.cells c.toArray E fz)) : I.row b 0 c := fun i v hi => by
  unfold Mem.cell?
  simp [h, hi]
end Go.Proofs.YtddkkmdbolgnlaaDoor.Fw

namespace Go.Proofs.YtddkkmdbolgnlaaDoor.Fw
def WRo (P : Program) (c : Code) (Q : Exit → Act → World → Prop) (N n : Nat) (ds : List Deferred) (l : List (Nat × Value)) (Γ : Env) (I : Mem) (L : List Chunk) : Prop :=
  ∀ a w, Fr a n ds l → St Γ I L w → Code.rounds P c Q N a w

/-- The parts of a struct, an array, laid into cells. -/
def partsO (offs : Nat → Option (Nat × Nat)) : List Value → List (Nat × Value) → Option (List Value)
  | c, [] => some c
  | c, (i, v) :: r => match offs i with
    | some (off, sz) => match cellsO v with
      | some vs => match vs with
        | [] => none
        | x :: xs => bif Nat.beq (xs.length + 1) sz then match setsO c off (x :: xs) with
            | some c' => partsO offs c' r
            | none => none
          else none
      | none => none
    | none => none

theorem fill_of {offs : Nat → Option (Nat × Nat)} {place : Nat → Option (Nat × Nat)} (hp : ∀ i r, offs i = some r → place i = some r) (ps : List (Nat × Value)) (c c' : List Value) (h : partsO offs c ps = some c') :
    Instr.fill place c.toArray ps = some c'.toArray := by
  induction ps generalizing c with
  | nil => simp [partsO] at h; subst h; rfl
  | cons p r ih =>
    obtain ⟨i, v⟩ := p
    simp only [partsO] at h
    split at h
    · rename_i off sz ho
      split at h
      · rename_i vs hvs
        split at h
        · simp at h
        · rename_i x xs
          cases hb : Nat.beq (xs.length + 1) sz with
          | false => rw [hb] at h; simp at h
          | true =>
            rw [hb] at h
            simp only [cond_true] at h
            split at h
            · rename_i c1 hc1
              have hv := cellsO_some hvs
              have hlen : v.cells.size = sz := by
                have := Nat.eq_of_beq_eq_true hb
                rw [← this, ← Array.length_toList, hv]; rfl
              have hle : off + v.cells.size ≤ c.length := by
                have := (setsO_some hc1).resolve_right (by simp)
                rw [← Array.length_toList, hv]; exact this
              unfold Instr.fill
              rw [hp i _ ho]
              simp only
              rw [if_neg (by simp [hlen]; omega)]
              have hput := setsO_put hc1
              have : (v.cells.zipIdx.foldl (fun cs (p : Value × Nat) => cs.setIfInBounds (off + p.2) p.1) c.toArray) = c1.toArray := by
                apply Array.toList_inj.1
                rw [← hput]
                unfold putCells
                rw [← hv]
                congr 1
                rw [← Array.foldl_toList]
                congr 1
                simp
              rw [this]
              exact ih _ h
            · simp at h
      · simp at h
    · simp at h

def structT (P : Program) (t : TypeId) : Option (List (Nat × Nat)) := match P.underlying t with
  | some (.struct fs) => fs.toList.mapM fun f => (szT P f.type).map fun s => (f.offset, s)
  | _ => none

section
variable {mo : Md} {P : Program} {ops : Array Oper} {Q : Exit → Act → World → Prop} {rest : List Oper} {n : Nat} {ds : List Deferred} {l : List (Nat × Value)} {Γ : Env} {I : Mem} {L : List Chunk}
variable {d : Nat} {t : TypeId} {pos : String} {af : Array Edge}

theorem WC.rounds {c : Code} (N : Nat) (h : WRo P c Q N n ds l Γ I L) : WC P (.loop c) Q n ds l Γ I L := fun a w hf hs => wp_loop_rounds N (h a w hf hs)
theorem WRo.step {c : Code} {N : Nat} (h : WC P c (Exit.then (Code.rounds P c Q N) Q) n ds l Γ I L) : WRo P c Q (N + 1) n ds l Γ I L := h
theorem WE.then_rounds {c : Code} {N : Nat} {Q' : Exit → Act → World → Prop} (h : WRo P c Q N n ds l Γ I L) : WE (Exit.then (Code.rounds P c Q N) Q') .normal n ds l Γ I L := h

theorem places_run {fs : List Field} {offs : List (Nat × Nat)} (h : (fs.mapM fun f => (szT P f.type).map fun s => (f.offset, s)) = some offs) (w : World) :
    (fs.mapM fun (f : Field) => do pure (f.offset, ← sizeOf f.type) : Sem (List (Nat × Nat))).run P w = .ok offs w := by
  induction fs generalizing offs with
  | nil => simp at h; subst h; rfl
  | cons f fs ih =>
    simp only [List.mapM_cons] at h ⊢
    cases hs : szT P f.type with
    | none => rw [hs] at h; simp at h
    | some s =>
      rw [hs] at h
      simp only [Option.map_some, Option.bind_eq_bind, Option.bind_some] at h
      cases hr : (fs.mapM fun f => (szT P f.type).map fun s => (f.offset, s)) with
      | none => rw [hr] at h; simp at h
      | some r =>
        rw [hr] at h
        simp only [Option.bind_some, Option.pure_def, Option.some.injEq] at h
        subst h
        rw [run_bind, run_bind, run_sizeOf hs]
        simp only [run_pure]
        rw [run_bind, ih hr]
        rfl

theorem run_build_struct {T : TypeId} {z : Value} {offs : List (Nat × Nat)} {zs c : List Value} {vs : List (Nat × Value)} (hz : zeroT P T = some z) (hzs : cellsO z = some zs) (ho : structT P T = some offs) (hc : partsO (nth offs) zs vs = some c) (w : World) :
    (Instr.build T vs.toArray).run P w = .ok (.agg c.toArray) w := by
  unfold structT at ho
  split at ho
  · rename_i fs hu
    unfold Instr.build
    rw [run_bind, run_zero hz]
    simp only
    rw [run_bind, run_underlying hu]
    simp only
    rw [run_bind, Array.mapM_eq_mapM_toList, map_eq_pure_bind, run_bind, places_run ho]
    simp only [run_pure]
    have hcz := cellsO_some hzs
    have := fill_of (offs := nth offs) (place := (offs.toArray[·]?)) (fun i r h => by rw [nth_eq] at h; simpa using h) vs zs c hc
    rw [show z.cells = zs.toArray from by apply Array.toList_inj.1; rw [hcz]]
    rw [this]
    rfl
  · simp at ho

theorem run_build_arr {T E : TypeId} {m sz : Nat} {z : Value} {zs c : List Value} {vs : List (Nat × Value)} (hz : zeroT P T = some z) (hzs : cellsO z = some zs) (hT : arrT P T = some (m, E)) (hs : szT P E = some sz) (hc : partsO (fun i => some (i * sz, sz)) zs vs = some c) (w : World) :
    (Instr.build T vs.toArray).run P w = .ok (.agg c.toArray) w := by
  unfold arrT at hT
  split at hT
  · rename_i m' e hu
    injection hT with hT; injection hT with h1 h2; subst h1; subst h2
    unfold Instr.build
    rw [run_bind, run_zero hz]
    simp only
    rw [run_bind, run_underlying hu]
    simp only
    rw [run_bind, run_sizeOf hs]
    simp only
    have hcz := cellsO_some hzs
    have := fill_of (offs := fun i => some (i * sz, sz)) (place := fun i => some (i * sz, sz)) (fun i r h => h) vs zs c hc
    rw [show z.cells = zs.toArray from by apply Array.toList_inj.1; rw [hcz]]
    rw [this]
    rfl
  · simp at hT

theorem WL.build_struct {T : TypeId} {ps : List (Nat × Operand)} {vs : List (Nat × Value)} {z : Value} {offs : List (Nat × Nat)} {zs c : List Value} (hvs : evps l ps = some vs) (hz : zeroT P T = some z) (ho : structT P T = some offs) (hzs : cellsO z = some zs) (hc : partsO (nth offs) zs vs = some c) (hd : Nat.ble (d + 1) n = true)
    (h : WL mo P ops Q rest n ds ((d, .agg c.toArray) :: l) Γ I L) : WL mo P ops Q (⟨some d, .build T ps.toArray, t, pos, af, none⟩ :: rest) n ds l Γ I L :=
  WL.build (evps_get hvs) (run_build_struct hz hzs ho hc) hd h
theorem WL.build_arr {T E : TypeId} {m sz : Nat} {ps : List (Nat × Operand)} {vs : List (Nat × Value)} {z : Value} {zs c : List Value} (hvs : evps l ps = some vs) (hz : zeroT P T = some z) (hT : arrT P T = some (m, E)) (hs : szT P E = some sz) (hzs : cellsO z = some zs) (hc : partsO (fun i => some (i * sz, sz)) zs vs = some c) (hd : Nat.ble (d + 1) n = true)
    (h : WL mo P ops Q rest n ds ((d, .agg c.toArray) :: l) Γ I L) : WL mo P ops Q (⟨some d, .build T ps.toArray, t, pos, af, none⟩ :: rest) n ds l Γ I L :=
  WL.build (evps_get hvs) (run_build_arr hz hzs hT hs hc) hd h

theorem WL.convert_in {T T' : TypeId} {x : Operand} {k k' : IntKind} {j : Int} (hx : ev l x = some (.int k j)) (hS : intT P T = some k) (hT : intT P T' = some k') (hd : Nat.ble (d + 1) n = true) (hw : k'.wrap j = j)
    (h : WL mo P ops Q rest n ds ((d, .int k' j) :: l) Γ I L) : WL mo P ops Q (⟨some d, .convert T T' x, t, pos, af, none⟩ :: rest) n ds l Γ I L :=
  WL.convert_int hx hS hT hd (by rw [hw]; exact h)
/-- 'x >> 1' of a number that is not negative. -/
theorem WL.shr_one {T T' : TypeId} {x y : Operand} {k k' : IntKind} {m : Int} (hx : ev l x = some (.int k m)) (hy : ev l y = some (.int k' 1)) (hd : Nat.ble (d + 1) n = true) (_hm : 0 ≤ m)
    (h : WL mo P ops Q rest n ds ((d, .int k (m / 2)) :: l) Γ I L) : WL mo P ops Q (⟨some d, .binOp .shr T x y T', t, pos, af, none⟩ :: rest) n ds l Γ I L :=
  WL.shr hx hy hd (by omega) (by
    have h1 : min (1 : Int).toNat k.bits = 1 := by cases k <;> rfl
    have h2 : m.fdiv (2 ^ (min (1 : Int).toNat k.bits)) = m / 2 := by
      rw [h1]; show m.fdiv 2 = _
      rw [Int.fdiv_eq_ediv_of_nonneg _ (by omega)]
    rw [h2]; exact h)

def zerosL (zs : List Value) : Nat → List Value
  | 0 => []
  | k + 1 => zs ++ zerosL zs k
theorem zerosL_eq (zs : List Value) (h : zs ≠ []) (k : Nat) : ((Array.range (k * zs.length)).map (fun i => zs.toArray[i % zs.toArray.size]!)).toList = zerosL zs k := by
  have hpos : 0 < zs.length := List.length_pos_iff.2 h
  induction k with
  | zero => simp [zerosL]
  | succ k ih =>
    simp only [zerosL]
    rw [← ih]
    apply List.ext_getElem?
    intro i
    simp only [Array.toList_map, Array.toList_range, List.size_toArray, List.getElem?_map]
    by_cases h1 : i < zs.length
    · rw [List.getElem?_append_left h1]
      have : i < (k + 1) * zs.length := by rw [Nat.succ_mul]; omega
      simp [List.getElem?_range this, Nat.mod_eq_of_lt h1, h1]
    · rw [List.getElem?_append_right (by omega)]
      simp only [List.getElem?_map]
      by_cases h2 : i < (k + 1) * zs.length
      · have h3 : i - zs.length < k * zs.length := by rw [Nat.succ_mul] at h2; omega
        rw [List.getElem?_range h2, List.getElem?_range h3]
        have : i % zs.length = (i - zs.length) % zs.length := by
          rw [Nat.mod_eq_sub_mod (by omega)]
        simp [this]
      · have h3 : ¬ (i - zs.length < k * zs.length) := by rw [Nat.succ_mul] at h2; omega
        rw [List.getElem?_eq_none (by simpa using h2), List.getElem?_eq_none (by simpa using h3)]

theorem WL.buildSlice_lit {T E : TypeId} {m sz : Nat} {ps : List (Nat × Operand)} {vs : List (Nat × Value)} {z : Value} {zs c zz : List Value} (hvs : evps l ps = some vs) (hT : sliceT P T = some E) (hs : szT P E = some sz) (hz : zeroT P E = some z) (hzs : cellsO z = some zs) (hsz : Nat.beq zs.length sz = true) (hpos : Nat.ble 1 (m * sz) = true) (hsm : Nat.ble (m * sz) 16777216 = true)
    (hzz : allO (zerosL zs m) = some zz) (hc : partsO (fun i => some (i * sz, sz)) zz vs = some c) (hd : Nat.ble (d + 1) n = true)
    (h : ∀ b, WL .seq P ops Q rest n ds ((d, .slice (some ⟨b, 0, none⟩) m m) :: l) Γ I ([(b, .cells c.toArray E (0, 0))] :: L)) : WL .seq P ops Q (⟨some d, .buildSlice T m ps.toArray, t, pos, af, none⟩ :: rest) n ds l Γ I L :=
  WL.buildSlice hvs (fun w => by
    unfold sliceT at hT
    split at hT
    · rename_i e hu
      injection hT with hT; subst hT
      have h1 := Nat.eq_of_beq_eq_true hsz
      have h2 := Nat.le_of_ble_eq_true hpos
      have h3 := Nat.le_of_ble_eq_true hsm
      have hcz := cellsO_some hzs
      have hzne : zs ≠ [] := fun e => by subst e; simp at h1; subst h1; simp at h2
      unfold Instr.buildSlice
      rw [run_bind, run_underlying hu]
      simp only
      rw [run_bind, run_sizeOf hs]
      simp only
      have h4 : ¬ (m * sz > 2 ^ 24) := by omega
      rw [if_neg h4, if_neg (by omega)]
      rw [run_bind, run_zero hz]
      simp only
      rw [run_bind]
      simp only [run_pure]
      rw [show z.cells = zs.toArray from by apply Array.toList_inj.1; rw [hcz]]
      have h5 : (Array.range (m * sz)).map (fun i => zs.toArray[i % zs.toArray.size]!) = zz.toArray := by
        apply Array.toList_inj.1
        rw [← h1, zerosL_eq zs hzne m]
        exact (allO_some hzz)
      rw [h5]
      rw [fill_of (offs := fun i => some (i * sz, sz)) (fun i r h => h) vs zz c hc]
      simp only
      rw [run_bind, run_newRow]
      rfl
    · simp at hT) hd h

/-- A place of an array by value. -/
theorem WL.index_arr {T E : TypeId} {x y : Operand} {k : IntKind} {j : Int} {m : Nat} {cs : List Value} {v : Value} (hx : ev l x = some (.agg cs.toArray)) (hy : ev l y = some (.int k j)) (hT : arrT P T = some (m, E)) (hs : szT P E = some 1) (ha : aggT P E = some false) (hd : Nat.ble (d + 1) n = true) (hj : 0 ≤ j ∧ j < (m : Int)) (hv : nth cs j.toNat = some v)
    (h : WL mo P ops Q rest n ds ((d, v) :: l) Γ I L) : WL mo P ops Q (⟨some d, .index T x y, t, pos, af, none⟩ :: rest) n ds l Γ I L :=
  WL.val hd (fun a w hf _ => by
    simp only [execOp, hf.ev hx, hf.ev hy]
    refine run_v ?_
    unfold arrT at hT
    split at hT
    · rename_i m' e hu
      injection hT with hT; injection hT with h1 h2; subst h1; subst h2
      rw [nth_eq] at hv
      unfold Instr.index
      simp only [run_bind, run_asIntOf, run_underlying hu, if_pos hj, run_sizeOf hs]
      unfold part
      simp only [run_bind, run_isAgg ha, Nat.mul_one]
      simp [hv]
    · simp at hT) h
end
end Go.Proofs.YtddkkmdbolgnlaaDoor.Fw

namespace Go.Proofs.YtddkkmdbolgnlaaDoor.Fw
inductive ResV (P : Program) (l : List (Nat × Value)) (L : List Chunk) : ResultVar → Value → Prop
  | tmp {t : Nat} {v : Value} (h : look l t = some v) : ResV P l L (.tmp t) v
  | agg {x T b off m : Nat} {c : Array Value} {E : TypeId} {fz : Nat × Nat} {vs : List Value} (k : Nat) (hx : look l x = some (.pointer (some ⟨b, off, none⟩))) (hk : nth L k = some [(b, .cells c E fz)]) (ht : aggT P T = some true) (hm : szT P T = some m)
      (hv : takeO m (dropN off c.toList) = some vs) : ResV P l L (.cell x T) (.agg vs.toArray)
  | one {x T b off : Nat} {c : Array Value} {E : TypeId} {fz : Nat × Nat} {v : Value} (k : Nat) (hx : look l x = some (.pointer (some ⟨b, off, none⟩))) (hk : nth L k = some [(b, .cells c E fz)]) (ht : aggT P T = some false)
      (hv : nth c.toList off = some v) : ResV P l L (.cell x T) v
inductive ResVs (P : Program) (l : List (Nat × Value)) (L : List Chunk) : List ResultVar → List Value → Prop
  | nil : ResVs P l L [] []
  | cons {r : ResultVar} {v : Value} {rs : List ResultVar} {vs : List Value} (h : ResV P l L r v) (hs : ResVs P l L rs vs) : ResVs P l L (r :: rs) (v :: vs)

section
variable {P : Program} {n : Nat} {ds : List Deferred} {l : List (Nat × Value)} {Γ : Env} {I : Mem} {L : List Chunk}
def resSem (tmps : Array Value) : ResultVar → Sem Value := fun
    | .tmp t => pure (tmps.getD t undef)
    | .cell a t => do loadVar t (← asAddr (tmps.getD a undef))
theorem ResV.run {r : ResultVar} {v : Value} (h : ResV P l L r v) {a : Act} {w : World} (hf : Fr a n ds l) (hs : St Γ I L w) : (resSem a.tmps r).run P w = .ok v w := by
  cases h with
  | tmp h =>
    have := hf.get _ _ h
    simp only [resSem, Array.getD_eq_getD_getElem?, this]; rfl
  | agg k hx hk ht hm hv =>
    have := hf.get _ _ hx
    obtain ⟨h1, h2⟩ := takeO_some hv
    simp only [resSem, Array.getD_eq_getD_getElem?, this, Option.getD_some]
    rw [run_bind]
    show (loadVar _ _).run P w = _
    refine loadVar_agg ht hm h1 fun j u hj => ?_
    rw [add_at]
    have := h2 j u hj
    rw [dropN_get] at this
    exact hs.cell_own (by rw [← nth_eq]; exact hk) (by simpa using this)
  | one k hx hk ht hv =>
    have := hf.get _ _ hx
    simp only [resSem, Array.getD_eq_getD_getElem?, this, Option.getD_some]
    rw [run_bind]
    show (loadVar _ _).run P w = _
    exact loadVar_scalar ht (hs.cell_own (by rw [← nth_eq]; exact hk) (by rw [nth_eq] at hv; simpa using hv))
theorem ResVs.run {fn : Func} {rs : List ResultVar} {vs : List Value} (hr : fn.results = rs.toArray) (h : ResVs P l L rs vs) {a : Act} {w : World} (hf : Fr a n ds l) (hs : St Γ I L w) : (results fn a.tmps).run P w = .ok (tupleOf vs) w := by
  have key : ∀ (rs : List ResultVar) (vs : List Value), ResVs P l L rs vs → (List.mapM (resSem a.tmps) rs).run P w = .ok vs w := by
    intro rs vs h
    induction h with
    | nil => rfl
    | cons h hs' ih =>
      simp only [List.mapM_cons]
      rw [run_bind, h.run hf hs]
      simp only
      rw [run_bind, ih]
      rfl
  have : results fn a.tmps = (do let vs ← fn.results.mapM (resSem a.tmps); pure (if h : vs.size = 1 then vs[0] else .tuple vs)) := by
    unfold results
    congr 1
  rw [this, hr, run_bind, Array.mapM_eq_mapM_toList, map_eq_pure_bind, run_bind, key rs vs h]
  simp only [run_pure]
  match vs with
  | [] => rfl
  | [x] => rfl
  | x :: y :: r =>
    rw [dif_neg (by simp)]
    rfl

theorem WE.retVr {fn : Func} {w0 : World} {I0 : Mem} {v v' : Value} {rs : List ResultVar} {vs : List Value} (hres : fn.results = rs.toArray) (hx : ResVs P l L rs vs) (hv : tupleOf vs = v') (h : v' = v) :
    WE (bodyPost P fn (RetOf ⟨w0, I0, []⟩ (fun v' I' C' => v' = v ∧ I' = I0 ∧ C' = []))) .ret n [] l ⟨w0, I0, []⟩ I L := fun a w hf hs => by
  refine ⟨hf.defers, _, hx.run hres hf hs, v', I0, [], by rw [hv], hs.ext.less, Own.nil _ _ _ _, h, rfl, rfl⟩
theorem WE.endVr {fn : Func} {w0 : World} {I0 : Mem} {v v' : Value} {rs : List ResultVar} {vs : List Value} (hres : fn.results = rs.toArray) (hx : ResVs P l L rs vs) (hv : tupleOf vs = v') (h : v' = v) :
    WE (bodyPost P fn (RetOf ⟨w0, I0, []⟩ (fun v' I' C' => v' = v ∧ I' = I0 ∧ C' = []))) .normal n [] l ⟨w0, I0, []⟩ I L := fun a w hf hs => by
  refine ⟨hf.defers, _, hx.run hres hf hs, v', I0, [], by rw [hv], hs.ext.less, Own.nil _ _ _ _, h, rfl, rfl⟩
theorem WE.retRr {fn : Func} {w0 : World} {I0 : Mem} {v' : Value} {R : Value → Mem → Prop} {rs : List ResultVar} {vs : List Value} (hres : fn.results = rs.toArray) (hx : ResVs P l L rs vs) (hv : tupleOf vs = v') (h : R v' I) :
    WE (bodyPost P fn (RetOf ⟨w0, I0, []⟩ (fun v' I' C' => C' = [] ∧ R v' I'))) .ret n [] l ⟨w0, I0, []⟩ I L := fun a w hf hs => by
  refine ⟨hf.defers, _, hx.run hres hf hs, v', I, [], by rw [hv], hs.ext, Own.nil _ _ _ _, rfl, h⟩
/-- The chunk on top is handed back. -/
theorem WE.retCr {fn : Func} {v' : Value} {R : Value → Mem → Chunk → Prop} {C : Chunk} {rs : List ResultVar} {vs : List Value} (hres : fn.results = rs.toArray) (hx : ResVs P l (C :: L) rs vs) (hv : tupleOf vs = v') (h : R v' I C) :
    WE (bodyPost P fn (RetOf Γ R)) .ret n [] l Γ I (C :: L) := fun a w hf hs => by
  have ho : Own Γ.w0 Γ.M I C w := by
    have := hs.own
    simp only [List.flatten_cons] at this
    refine ⟨fun p hp => this.has p (List.mem_append_left _ hp), fun p hp => this.out p (List.mem_append_left _ hp), ?_, fun p hp => this.from_ p (List.mem_append_left _ hp)⟩
    have h1 := this.apart
    rw [List.map_append] at h1
    exact (List.nodup_append.1 h1).1
  refine ⟨hf.defers, _, hx.run hres hf hs, v', I, C, by rw [hv], hs.ext, ho, h⟩
theorem WE.endCr {fn : Func} {v' : Value} {R : Value → Mem → Chunk → Prop} {C : Chunk} {rs : List ResultVar} {vs : List Value} (hres : fn.results = rs.toArray) (hx : ResVs P l (C :: L) rs vs) (hv : tupleOf vs = v') (h : R v' I C) :
    WE (bodyPost P fn (RetOf Γ R)) .normal n [] l Γ I (C :: L) := fun a w hf hs => WE.retCr hres hx hv h a w hf hs
end
end Go.Proofs.YtddkkmdbolgnlaaDoor.Fw

namespace Go.Proofs.YtddkkmdbolgnlaaDoor.Fw
section
variable {P : Program} {ops : Array Oper} {md : Region.Mode} {C : World → Prop}

/-- The head, in any order; 'E': what holds behind it. -/
def HeadQ (P : Program) (md : Region.Mode) (ops : Array Oper) (C : World → Prop) (m : Nat) (E : Array Bool → Act → Prop) : Nat → Array Bool → Act → Prop
  | 0, ld, a => E ld a
  | f + 1, ld, a => Region.ready md ops ld ≠ [] ∧ ∀ i ∈ Region.ready md ops ld, i < m ∧ qOp P ops C i (HeadQ P md ops C m E f (ld.setIfInBounds i true)) a

theorem HeadQ.any {m g : Nat} {E : Array Bool → Act → Prop} {Q' : Exit → Act → World → Prop} (hE : ∀ ld a w, C w → E ld a → wpAny P md ops Q' g ld a w) (f : Nat) :
    ∀ (ld : Array Bool) (a : Act) (w : World), C w → HeadQ P md ops C m E f ld a → wpAny P md ops Q' (f + g) ld a w := by
  induction f with
  | zero => intro ld a w hw h; rw [Nat.zero_add]; exact hE _ _ _ hw h
  | succ f ih =>
    intro ld a w hw h
    rw [Nat.add_right_comm]
    exact ⟨fun e => absurd e h.1, fun i hi => wpOp_of_qOp hw (fun a' w' hw' h' => ih _ a' w' hw' h') (h.2 i hi).2⟩

theorem HeadQ.first {m i : Nat} {oi : Oper} {v : Value} {E : Array Bool → Act → Prop} (hi : ops[i]? = some oi) (hsel : ∀ (j : Nat) (o : Oper) cs b, ops[j]? = some o → o.op ≠ .select cs b)
    (hs : Region.sinkB md ops m = true) (hc : Region.chainB md ops m = true) (hm : m < ops.size) (him : i < m) (hE : ∀ ld a, E ld a → ∀ j ∈ Region.ready md ops ld, m ≤ j) (f : Nat) :
    ∀ (ld : Array Bool) (a : Act), HeadInv md ops m ld →
      (∀ j oj, ops[j]? = some oj → j ≠ i → ld.getD j true = false → (∀ e ∈ oj.after, Region.binds md e = true → e.on ≠ i) → oi.apart ops oj = true) →
      i ∈ Region.ready md ops ld → YieldsIn P ops C oi v a → HeadQ P md ops C m E f (ld.setIfInBounds i true) (a.put oi.dst v) → HeadQ P md ops C m E (f + 1) ld a := by
  induction f with
  | zero =>
    intro ld a inv _ hr hy H
    have hun := (mem_ready.1 hr).1
    have low : ∀ j ∈ Region.ready md ops ld, j < m := fun j hj => Nat.lt_of_not_le fun h => absurd hj (tail_waits hs hc hm inv _ i rfl him hun j h)
    refine ⟨List.ne_nil_of_mem hr, fun j hj => ⟨low j hj, ?_⟩⟩
    rcases Nat.decEq j i with hji | hji
    · exact absurd (low j hj) (Nat.not_lt.2 (hE _ _ H j (ready_mono hj hji)))
    · subst hji; exact hy.qOp hi H
  | succ f ih =>
    intro ld a inv hfree hr hy H
    have hun := (mem_ready.1 hr).1
    have low : ∀ j ∈ Region.ready md ops ld, j < m := fun j hj => Nat.lt_of_not_le fun h => absurd hj (tail_waits hs hc hm inv _ i rfl him hun j h)
    refine ⟨List.ne_nil_of_mem hr, fun j hj => ⟨low j hj, ?_⟩⟩
    rcases Nat.decEq j i with hji | hji
    · obtain ⟨hju, oj, hoj, hall⟩ := mem_ready.1 hj
      have hno : ∀ e ∈ oj.after, Region.binds md e = true → e.on ≠ i := fun e he hb h => by
        have := hall e he hb
        rw [h, getD_both hun] at this
        exact absurd this (by simp)
      refine qOp_mono (fun a' h3 => ih (ld.setIfInBounds j true) a' (inv.set hj (low j hj)) (fun k ok hk hki hu hno' => hfree k ok hk hki ?_ hno') (ready_mono hr (Ne.symm hji)) h3.1 ?_)
        (qOp_put hoj (hfree j oj hoj hji hju hno) (fun cs b => hsel i oi cs b hi) (fun cs b => hsel j oj cs b hoj) hy (H.2 j (ready_mono hj hji)).2)
      · rcases Nat.decEq j k with e | e
        · rwa [getD_set_ne true e] at hu
        · subst e; exact hju
      · rw [Array.setIfInBounds_comm _ _ hji]; exact h3.2
    · subst hji; exact hy.qOp hi H

theorem HeadQ.lex {m g : Nat} {E : Act → Prop} (hsel : Region.noSelect ops = true) (hs : Region.sinkB md ops m = true) (hc : Region.chainB md ops m = true) (hm : m < ops.size) (l : List Oper) :
    ∀ (k : Nat) (ld : Array Bool) (a : Act), (∀ j, j < l.length → l[j]? = ops[k + j]?) → k + l.length = m → HeadInv md ops m ld → Region.lexHead md ops g l.length k ld = true →
      wpQuiet P ops C E l a → HeadQ P md ops C m (fun ld' a' => Region.seqB md ops g m ld' = true ∧ E a') l.length ld a := by
  induction l with
  | nil =>
    intro k ld a _ hk _ hB h
    have : k = m := by simpa using hk
    subst this
    exact ⟨by simpa [Region.lexHead] using hB, h⟩
  | cons o l ih =>
    intro k ld a hl hk inv hB h
    have h0 : ops[k]? = some o := by simpa using (hl 0 (by simp)).symm
    simp only [List.length_cons, Region.lexHead, Bool.and_eq_true] at hB
    simp only [List.length_cons] at hk
    obtain ⟨⟨hr, hf⟩, hB'⟩ := hB
    have hr' : k ∈ Region.ready md ops ld := by simpa using hr
    obtain ⟨v, hy, hK⟩ := yieldsIn_of_qOp h0 (show qOp P ops C k (wpQuiet P ops C E l) a by unfold qOp; simp only [h0]; exact h)
    exact HeadQ.first h0 (Region.noSelect_spec hsel) hs hc hm (by omega) (fun _ _ hL => seqB_ready hL.1) l.length ld a inv (Region.free_spec h0 hf) hr' hy
      (ih (k + 1) _ _ (fun j hj => by have := hl (j + 1) (by simp; omega); simpa [Nat.add_assoc, Nat.add_comm 1 j] using this) (by omega) (inv.set hr' (by omega)) hB' hK)

theorem wp_region_tail {id m : Nat} {Q : Exit → Act → World → Prop} {a : Act} {w : World} {l : List Oper} (hmo : P.follows .mixedOrders = true) (hB : Region.lexTailB .any l.toArray m = true) (hC : C { w with drawn := w.drawn + 1 })
    (h : wpQuiet P l.toArray C (fun a' => ∀ w', C w' → wpList P l.toArray Q (l.drop m) a' w') (l.take m) a) : (Code.region id l.toArray true).wp P Q a w := by
  simp only [Region.lexTailB, Bool.and_eq_true, decide_eq_true_eq] at hB
  obtain ⟨⟨⟨⟨hsel, hm⟩, hs⟩, hc⟩, hlex⟩ := hB
  have hm' : m < l.length := by simpa using hm
  have htl : (l.take m).length = m := by simp; omega
  have hdl : (l.drop m).length = l.toArray.size - m := by simp
  have H := HeadQ.lex (P := P) (C := C) (md := .any) (g := l.toArray.size - m) hsel hs hc hm (l.take m) 0 (Array.replicate l.toArray.size false) a (fun j hj => by rw [htl] at hj; simp [hj]) (by simpa using htl)
    ⟨by simp, fun j oj _ hl => (by rw [getD_replicate_false] at hl; cases hl), fun t _ ht => getD_in (by simpa using ht) (getD_replicate_false _ _)⟩ (by rw [htl]; exact hlex) h
  refine wp_region_any hmo ?_
  have := HeadQ.any (Q' := Q) (g := l.toArray.size - m) (fun ld a' w' hw' hL => by
    have := wpAny_of_seq (md := .any) (Q' := Q) (l.drop m) m ld a' w' (fun j => by simp [List.getElem?_drop]) (by rw [hdl]; exact hL.1) (hL.2 w' hw')
    rwa [hdl] at this) _ _ _ _ hC H
  rw [htl, show m + (l.toArray.size - m) = l.toArray.size by omega] at this
  exact this
end

section
variable {P : Program} {Q : Exit → Act → World → Prop} {n : Nat} {ds : List Deferred} {l : List (Nat × Value)} {Γ : Env} {I : Mem} {L : List Chunk}
theorem takeO_eq {α : Type} {m : Nat} {l vs : List α} (h : takeO m l = some vs) : vs = l.take m := by
  induction m generalizing l vs with
  | zero => simp [takeO] at h; subst h; simp
  | succ m ih =>
    cases l with
    | nil => simp [takeO] at h
    | cons x r =>
      simp only [takeO] at h
      split at h
      · rename_i us hu
        injection h with h; subst h
        rw [ih hu]; rfl
      · simp at h
theorem dropN_eq {α : Type} (m : Nat) (l : List α) : dropN m l = l.drop m := by
  induction m generalizing l with
  | zero => simp [dropN]
  | succ m ih => cases l with
    | nil => simp [dropN]
    | cons x r => simpa [dropN] using ih r
/-- A drawn region with a tail: behind the head all goes on in the order of the text. -/
theorem WC.region_tail {id : Nat} {os r1 r2 : List Oper} (m : Nat) (hmo : P.follows .mixedOrders = true) (hB : Region.lexTailB .any os.toArray m = true) (h1 : takeO m os = some r1) (h2 : allO (dropN m os) = some r2)
    (h : WL .any P os.toArray (fun _ a w => wpList P os.toArray Q r2 a w) r1 n ds l Γ I L) : WC P (.region id os.toArray true) Q n ds l Γ I L := fun a w hf hs => by
  have e2 := allO_some h2
  rw [dropN_eq] at e2
  refine wp_region_tail (C := St Γ I L) hmo hB (hs.drew _) ?_
  rw [← takeO_eq h1, e2]
  exact h a hf
theorem WE.tail {os : Array Oper} {r2 : List Oper} (h : WL .seq P os Q r2 n ds l Γ I L) : WE (fun _ a w => wpList P os Q r2 a w) .normal n ds l Γ I L := h
end
end Go.Proofs.YtddkkmdbolgnlaaDoor.Fw

namespace Go.Proofs.YtddkkmdbolgnlaaDoor.Fw
section
variable {P : Program} {ops : Array Oper} {Q : Exit → Act → World → Prop}

/-- Whatever order is picked; behind each operation 'S' holds. -/
def HS (P : Program) (ops : Array Oper) (Q : Exit → Act → World → Prop) (S : Array Bool → World → Prop) : Nat → Array Bool → Act → World → Prop
  | 0, ld, a, w => Region.ready .any ops ld = [] ∧ Q .normal a w
  | f + 1, ld, a, w => (Region.ready .any ops ld = [] → Q .normal a w) ∧
    ∀ i ∈ Region.ready .any ops ld, wpOp P ops Q i (fun a' w' => S (ld.setIfInBounds i true) w' ∧ HS P ops Q S f (ld.setIfInBounds i true) a' w') a w

theorem HS.any {S : Array Bool → World → Prop} (f : Nat) : ∀ (ld : Array Bool) (a : Act) (w : World), HS P ops Q S f ld a w → wpAny P .any ops Q f ld a w := by
  induction f with
  | zero => intro _ _ _ h; exact h
  | succ f ih => intro ld a w h; exact ⟨h.1, fun i hi => wpOp_mono (fun a' w' h' => ih _ _ _ h'.2) (h.2 i hi)⟩

def Grown (ld ld' : Array Bool) : Prop := ∀ j, ld.getD j false = true → ld'.getD j false = true
theorem Grown.set {ld ld' : Array Bool} (h : Grown ld ld') (i : Nat) : Grown ld (ld'.setIfInBounds i true) := fun j hj => getD_set_true (h j hj)

theorem HS.mono {S S' : Array Bool → World → Prop} (f : Nat) : ∀ (ld : Array Bool) (a : Act) (w : World), (∀ ld' w, Grown ld ld' → S ld' w → S' ld' w) → HS P ops Q S f ld a w → HS P ops Q S' f ld a w := by
  induction f with
  | zero => intro _ _ _ _ h; exact h
  | succ f ih =>
    intro ld a w hS h
    exact ⟨h.1, fun i hi => wpOp_mono (fun a' w' h' => ⟨hS _ _ (Grown.set (fun _ h => h) i) h'.1, ih _ _ _ (fun ld' w' hg => hS ld' w' (fun j hj => hg j (getD_set_true hj))) h'.2⟩) (h.2 i hi)⟩

/-- What an operation that is listed waits for is listed. -/
structure Shut (ops : Array Oper) (ld : Array Bool) : Prop where
  size : ld.size = ops.size
  shut : ∀ j oj, ops[j]? = some oj → ld.getD j false = true → ∀ e ∈ oj.after, Region.binds .any e = true → ld.getD e.on false = true
theorem Shut.set {i : Nat} {ld : Array Bool} (inv : Shut ops ld) (hi : i ∈ Region.ready .any ops ld) : Shut ops (ld.setIfInBounds i true) := by
  obtain ⟨_, oi, hoi, hall⟩ := mem_ready.1 hi
  refine ⟨by simp [inv.size], fun j oj hj hl e he hb => ?_⟩
  rcases Nat.decEq i j with hij | hij
  · rw [getD_set_ne false hij] at hl
    exact getD_set_true (inv.shut j oj hj hl e he hb)
  · subst hij
    have : oj = oi := Option.some.inj (hj.symm.trans hoi)
    subst this
    exact getD_set_true (hall e he hb)
theorem Shut.start : Shut ops (Array.replicate ops.size false) :=
  ⟨by simp, fun j oj _ hl => by rw [getD_replicate_false] at hl; cases hl⟩

/-- An operation that comes to its value in every world in which it may come up may be taken first. -/
theorem HS.first {i : Nat} {oi : Oper} {v : Value} {Si : World → Prop} {S : Array Bool → World → Prop} (hi : ops[i]? = some oi) (hsel : ∀ (j : Nat) (o : Oper) cs b, ops[j]? = some o → o.op ≠ .select cs b)
    (hQ : ∀ c a w, Q (.panic c) (a.put oi.dst v) w → Q (.panic c) a w) (hSi : ∀ ld w, Shut ops ld → ld.getD i false = false → S ld w → Si w) (hSe : ∀ ld w, S (ld.setIfInBounds i true) w ↔ S ld w) (f : Nat) :
    ∀ (ld : Array Bool) (a : Act) (w : World), Shut ops ld →
      (∀ j oj, ops[j]? = some oj → j ≠ i → ld.getD j true = false → (∀ e ∈ oj.after, Region.binds .any e = true → e.on ≠ i) → oi.apart ops oj = true) →
      i ∈ Region.ready .any ops ld → YieldsIf P ops Si oi v a → S ld w → HS P ops Q S f (ld.setIfInBounds i true) (a.put oi.dst v) w → HS P ops Q S (f + 1) ld a w := by
  induction f with
  | zero =>
    intro ld a w inv _ hr hy hS H
    have hun := (mem_ready.1 hr).1
    refine ⟨fun h => (by rw [h] at hr; cases hr), fun j hj => ?_⟩
    rcases Nat.decEq j i with hji | hji
    · have := ready_mono hj hji
      rw [H.1] at this
      cases this
    · subst hji; exact hy.wpOp hi (hSi ld w inv (getD_both hun) hS) ⟨(hSe ld w).2 hS, H⟩
  | succ f ih =>
    intro ld a w inv hfree hr hy hS H
    have hun := (mem_ready.1 hr).1
    refine ⟨fun h => (by rw [h] at hr; cases hr), fun j hj => ?_⟩
    rcases Nat.decEq j i with hji | hji
    · obtain ⟨hju, oj, hoj, hall⟩ := mem_ready.1 hj
      have hno : ∀ e ∈ oj.after, Region.binds .any e = true → e.on ≠ i := fun e he hb h => by
        have := hall e he hb
        rw [h, getD_both hun] at this
        exact absurd this (by simp)
      refine wpOp_mono (fun a' w' h3 => ?_) (wpOp_putIf hoj (hfree j oj hoj hji hju hno) (fun cs b => hsel i oi cs b hi) (fun cs b => hsel j oj cs b hoj) hQ hy (H.2 j (ready_mono hj hji)))
      obtain ⟨hy', hS', h4⟩ := h3
      rw [Array.setIfInBounds_comm _ _ (Ne.symm hji)] at hS' h4
      rw [hSe] at hS'
      exact ⟨hS', ih (ld.setIfInBounds j true) a' w' (inv.set hj) (fun k ok hk hki hu hno' => hfree k ok hk hki (by
        rcases Nat.decEq j k with e | e
        · rwa [getD_set_ne true e] at hu
        · subst e; exact hju) hno') (ready_mono hr (Ne.symm hji)) hy' hS' h4⟩
    · subst hji; exact hy.wpOp hi (hSi ld w inv (getD_both hun) hS) ⟨(hSe ld w).2 hS, H⟩

/-- Does an operation wait for another one, over others too? -/
def needs (ops : Array Oper) (k : Nat) : Nat → Nat → Bool
  | 0, _ => false
  | f + 1, e => match ops[e]? with
    | some o => o.after.any fun x => Region.binds .any x && (x.on == k || needs ops k f x.on)
    | none => false
theorem needs_spec {k : Nat} {ld : Array Bool} (inv : Shut ops ld) (f : Nat) : ∀ e, needs ops k f e = true → ld.getD e false = true → ld.getD k false = true := by
  induction f with
  | zero => intro e h; simp [needs] at h
  | succ f ih =>
    intro e h he
    unfold needs at h
    split at h
    · rename_i o ho
      obtain ⟨x, hx, hb⟩ := Array.any_eq_true'.1 h
      simp only [Bool.and_eq_true, Bool.or_eq_true, beq_iff_eq] at hb
      have := inv.shut e o ho he x hx hb.1
      rcases hb.2 with h2 | h2
      · rw [← h2]; exact this
      · exact ih _ h2 this
    · cases h

/-- What holds while the region goes on: 'W' until number 'g' has come up; 'C' until number 'e' has come up. -/
def Sx (e g : Nat) (C W : World → Prop) (ld : Array Bool) (w : World) : Prop := (ld.getD g false = false → W w) ∧ (ld.getD e false = false → C w)
theorem Sx.set {e g i : Nat} {C W : World → Prop} (h : i ≠ e) (hg : i ≠ g) (ld : Array Bool) (w : World) : Sx e g C W (ld.setIfInBounds i true) w ↔ Sx e g C W ld w := by
  unfold Sx
  rw [getD_set_ne false h, getD_set_ne false hg]
def inRegion (ops : Array Oper) (ld : Array Bool) (k : Nat) : Bool := (Region.ready .any ops ld).contains k && Region.free .any ops ld k

variable {n : Nat} {ds : List Deferred} {l : List (Nat × Value)} {Γ : Env} {I Iw : Mem} {L Lu : List Chunk}

/-- The rest of a staged region: 'ld': what has come up; 'e': the next one that touches memory (none: the region's size); 'Iw', 'Lu': what nobody in the region touches. -/
def WS (P : Program) (ops : Array Oper) (Q : Exit → Act → World → Prop) (Iw : Mem) (Lu : List Chunk) (g e : Nat) (f : Nat) (ld : Array Bool) (n : Nat) (ds : List Deferred) (l : List (Nat × Value)) (Γ : Env) (I : Mem) (L : List Chunk) : Prop :=
  ∀ a w, Fr a n ds l → St Γ I L w → (ld.getD g false = false → St Γ Iw Lu w) → Shut ops ld → HS P ops Q (Sx e g (St Γ I L) (St Γ Iw Lu)) f ld a w

/-- A reading operation for which the next one that touches memory waits. -/
theorem WS.own {e g f k : Nat} {o : Oper} {ld ld' : Array Bool} (hk : ops[k]? = some o) (hs : Region.noSelect ops = true) (hin : inRegion ops ld k = true) (hb : (k != e && (decide (ops.size ≤ e) || needs ops k ops.size e) && k != g) = true) (hld : ld.setIfInBounds k true = ld')
    (hQ : ∀ c a w, ¬ Q (.panic c) a w)
    (h : WL .pure P ops (fun _ a w => (ld'.getD g false = false → St Γ Iw Lu w) → Shut ops ld' → HS P ops Q (Sx e g (St Γ I L) (St Γ Iw Lu)) f ld' a w) [o] n ds l Γ I L) : WS P ops Q Iw Lu g e (f + 1) ld n ds l Γ I L := fun a w hf hst hw inv => by
  simp only [inRegion, Bool.and_eq_true, bne_iff_ne, ne_eq, Bool.or_eq_true, decide_eq_true_eq] at hin hb
  obtain ⟨hr, hfr⟩ := hin
  obtain ⟨hb, hkg⟩ := hb
  subst hld
  have hwk : (ld.setIfInBounds k true).getD g false = false → St Γ Iw Lu w := fun h => hw (by rwa [getD_set_ne false hkg] at h)
  have hr' : k ∈ Region.ready .any ops ld := by simpa using hr
  have := h a hf
  unfold wpPure at this
  have hSi : ∀ ld w, Shut ops ld → ld.getD k false = false → Sx e g (St Γ I L) (St Γ Iw Lu) ld w → St Γ I L w := fun ld' w inv' hu hS => by
    refine hS.2 ?_
    rcases hb.2 with h1 | h1
    · simp [Array.getD_eq_getD_getElem?, Array.getElem?_eq_none (show ld'.size ≤ e by rw [inv'.size]; exact h1)]
    · cases hh : ld'.getD e false with
      | false => rfl
      | true => rw [needs_spec inv' _ _ h1 hh] at hu; cases hu
  split at this
  · rename_i hw'
    obtain ⟨v, hv, hK⟩ := this
    exact HS.first hk (Region.noSelect_spec hs) (fun c a w hq => absurd hq (hQ c _ w)) hSi (Sx.set hb.1 hkg) f ld a w inv (Region.free_spec hk hfr) hr' (.inl ⟨hw', hv⟩) ⟨hw, fun _ => hst⟩ (hK w hst hwk (inv.set hr'))
  · rename_i hw'
    exact HS.first hk (Region.noSelect_spec hs) (fun c a w hq => absurd hq (hQ c _ w)) hSi (Sx.set hb.1 hkg) f ld a w inv (Region.free_spec hk hfr) hr' (.inr ⟨by simpa using hw', rfl⟩) ⟨hw, fun _ => hst⟩ (this w hst hwk (inv.set hr'))

/-- .. for which it does not wait: it reads only what nobody in the region touches. -/
theorem WS.float {e g f k : Nat} {o : Oper} {ld ld' : Array Bool} (hk : ops[k]? = some o) (hs : Region.noSelect ops = true) (hin : inRegion ops ld k = true) (hb : (k != e && k != g && (decide (ops.size ≤ g) || needs ops k ops.size g)) = true) (hld : ld.setIfInBounds k true = ld')
    (hQ : ∀ c a w, ¬ Q (.panic c) a w)
    (h : WL .pure P ops (fun _ a _ => ∀ w, St Γ I L w → (ld'.getD g false = false → St Γ Iw Lu w) → Shut ops ld' → HS P ops Q (Sx e g (St Γ I L) (St Γ Iw Lu)) f ld' a w) [o] n ds l Γ Iw Lu) : WS P ops Q Iw Lu g e (f + 1) ld n ds l Γ I L := fun a w hf hst hw inv => by
  simp only [inRegion, Bool.and_eq_true, bne_iff_ne, ne_eq, Bool.or_eq_true, decide_eq_true_eq] at hin hb
  obtain ⟨hr, hfr⟩ := hin
  obtain ⟨⟨hb, hkg⟩, hng⟩ := hb
  have hgk : ∀ ld', Shut ops ld' → ld'.getD k false = false → ld'.getD g false = false := fun ld' inv' hu => by
    rcases hng with h1 | h1
    · simp [Array.getD_eq_getD_getElem?, Array.getElem?_eq_none (show ld'.size ≤ g by rw [inv'.size]; exact h1)]
    · cases hh : ld'.getD g false with
      | false => rfl
      | true => rw [needs_spec inv' _ _ h1 hh] at hu; cases hu
  subst hld
  have hwk : (ld.setIfInBounds k true).getD g false = false → St Γ Iw Lu w := fun h => hw (by rwa [getD_set_ne false hkg] at h)
  have hr' : k ∈ Region.ready .any ops ld := by simpa using hr
  have := h a hf
  unfold wpPure at this
  have hSi : ∀ ld w, Shut ops ld → ld.getD k false = false → Sx e g (St Γ I L) (St Γ Iw Lu) ld w → St Γ Iw Lu w := fun ld' w inv' hu hS => hS.1 (hgk ld' inv' hu)
  have hwn : St Γ Iw Lu w := hw (hgk ld inv (getD_both (mem_ready.1 hr').1))
  split at this
  · rename_i hw'
    obtain ⟨v, hv, hK⟩ := this
    exact HS.first hk (Region.noSelect_spec hs) (fun c a w hq => absurd hq (hQ c _ w)) hSi (Sx.set hb hkg) f ld a w inv (Region.free_spec hk hfr) hr' (.inl ⟨hw', hv⟩) ⟨hw, fun _ => hst⟩ (hK w hwn w hst hwk (inv.set hr'))
  · rename_i hw'
    exact HS.first hk (Region.noSelect_spec hs) (fun c a w hq => absurd hq (hQ c _ w)) hSi (Sx.set hb hkg) f ld a w inv (Region.free_spec hk hfr) hr' (.inr ⟨by simpa using hw', rfl⟩) ⟨hw, fun _ => hst⟩ (this w hwn w hst hwk (inv.set hr'))

theorem WS.onward {e g f : Nat} {ld : Array Bool} (h : WS P ops Q Iw Lu g e f ld n ds l Γ I L) : WE (fun _ a w => (ld.getD g false = false → St Γ Iw Lu w) → Shut ops ld → HS P ops Q (Sx e g (St Γ I L) (St Γ Iw Lu)) f ld a w) .normal n ds l Γ I L := h
theorem WS.onwardF {e g f : Nat} {ld : Array Bool} (h : WS P ops Q Iw Lu g e f ld n ds l Γ I L) : WE (fun _ a _ => ∀ w, St Γ I L w → (ld.getD g false = false → St Γ Iw Lu w) → Shut ops ld → HS P ops Q (Sx e g (St Γ I L) (St Γ Iw Lu)) f ld a w) .normal n ds l Γ Iw Lu := fun a _ hf _ w hs => h a w hf hs

/-- What follows behind an operation that touches memory. -/
def Nx (P : Program) (ops : Array Oper) (Q : Exit → Act → World → Prop) (S : Array Bool → World → Prop) (g : Nat) (W : World → Prop) (f : Nat) (ld : Array Bool) : Exit → Act → World → Prop
  | .normal, a, w => Shut ops ld → (ld.getD g false = false → W w) ∧ HS P ops Q S f ld a w
  | _, _, _ => False
/-- One that touches memory, where it alone may come up. -/
theorem WS.touch {f g k : Nat} {o : Oper} {ld ld' : Array Bool} (hk : ops[k]? = some o) (hin : Region.ready .any ops ld = [k]) (hld : ld.setIfInBounds k true = ld')
    (h : WL .seq P ops (Nx P ops Q (Sx k g (St Γ I L) (St Γ Iw Lu)) g (St Γ Iw Lu) f ld') [o] n ds l Γ I L) : WS P ops Q Iw Lu g k (f + 1) ld n ds l Γ I L := fun a w hf hst hw inv => by
  subst hld
  refine ⟨fun h => (by rw [h] at hin; cases hin), fun j hj => ?_⟩
  rw [hin] at hj
  have : j = k := by simpa using hj
  subst this
  have hsh : Shut ops (ld.setIfInBounds j true) := inv.set (by rw [hin]; simp)
  have hsz : j < ld.size := by rw [inv.size]; exact (Array.getElem?_eq_some_iff.1 hk).1
  have hlist : ∀ ld', Grown (ld.setIfInBounds j true) ld' → ld'.getD j false = true := fun ld' hg => hg j (by simp [hsz])
  have h1 := h a w hf hst
  have fin : ∀ a' w', Nx P ops Q (Sx j g (St Γ I L) (St Γ Iw Lu)) g (St Γ Iw Lu) f (ld.setIfInBounds j true) .normal a' w' →
      Sx j g (St Γ I L) (St Γ Iw Lu) (ld.setIfInBounds j true) w' ∧ HS P ops Q (Sx j g (St Γ I L) (St Γ Iw Lu)) f (ld.setIfInBounds j true) a' w' := fun a' w' hn => by
    obtain ⟨h2, h3⟩ := hn hsh
    exact ⟨⟨h2, fun hu => by rw [hlist _ (fun _ h => h)] at hu; cases hu⟩, h3⟩
  unfold wpList at h1
  unfold wpOp
  simp only [hk]
  split at h1
  · rename_i hwn
    rw [if_pos hwn]
    rcases h1 with h1 | ⟨_, _, _, h2⟩
    · left
      unfold Oper.wp at h1 ⊢
      cases hr : (execOp a.eval o).run P w with
      | ok nx w' =>
        rw [hr] at h1
        cases nx with
        | enter g args =>
          refine Calls.mono h1 fun e w'' he => ?_
          cases e with
          | returned u => exact fin _ _ he
          | panicked c => exact absurd he id
          | outgrown => exact absurd he (fun ⟨_, _, h⟩ => h)
        | row r args => exact Rows.mono h1 fun u w'' he => fin _ _ he
        | value v => exact fin _ _ h1
        | skip => exact fin _ _ h1
        | «defer» d => exact fin _ _ h1
        | _ => exact absurd h1 id
      | halt x w' =>
        rw [hr] at h1
        cases x <;> exact absurd h1 id
    · exact absurd h2 id
  · rename_i hwn
    rw [if_neg hwn]
    exact fin _ _ h1

/-- Behind it: the next one that touches memory is 'e''. -/
theorem WS.next {e g e' f : Nat} {ld : Array Bool} {C : World → Prop} {I' : Mem} {L' : List Chunk} (he : ld.getD e false = true) (hW : ld.getD g false = true ∨ ∀ w, St Γ I' L' w → St Γ Iw Lu w) (h : WS P ops Q Iw Lu g e' f ld n ds l Γ I' L') :
    WE (Nx P ops Q (Sx e g C (St Γ Iw Lu)) g (St Γ Iw Lu) f ld) .normal n ds l Γ I' L' := fun a w hf hs hsh =>
  have hw : ld.getD g false = false → St Γ Iw Lu w := fun h0 => by
    rcases hW with h1 | h1
    · rw [h1] at h0; cases h0
    · exact h1 w hs
  ⟨hw, HS.mono f ld a w (fun ld' w' hg h1 => ⟨h1.1, fun hu => by rw [hg e he] at hu; cases hu⟩) (h a w hf hs hw hsh)⟩

theorem WS.done {e g : Nat} {ld : Array Bool} (hin : Region.ready .any ops ld = []) (h : WE Q .normal n ds l Γ I L) : WS P ops Q Iw Lu g e 0 ld n ds l Γ I L := fun a w hf hst _ _ => ⟨hin, h a w hf hst⟩

/-- No panic. -/
def calm (Q : Exit → Act → World → Prop) : Exit → Act → World → Prop
  | .normal, a, w => Q .normal a w
  | _, _, _ => False
theorem calm_no (c : List PanicEntry) (a : Act) (w : World) : ¬ calm Q (.panic c) a w := id

theorem WC.region_staged {id g e : Nat} {os : List Oper} (ks : List Nat) (hmo : P.follows .mixedOrders = true) (hk : noTwice ks = true) (hL : pickL ks L = some Lu)
    (h : Γ.I0.le I → WS P os.toArray (calm Q) I Lu g e os.length (Array.replicate os.length false) n ds l Γ I L) : WC P (.region id os.toArray true) Q n ds l Γ I L := fun a w hf hs => by
  have hs' := hs.drew (w.drawn + 1)
  have h1 := h hs'.ext.le0 a _ hf hs' (fun _ => hs'.pick ks hk hL) (by simpa using Shut.start (ops := os.toArray))
  refine Go.wp_mono (wp_region_any hmo (by simpa using HS.any _ _ _ _ h1)) fun e a w he => ?_
  cases e <;> first | exact he | exact absurd he (fun h => h)

/-- What holds of more memory holds of less. -/
theorem St.lessI {w : World} {I' : Mem} {L' : List Chunk} (h : St Γ I' L' w) (hI : I.le I') (h0 : Γ.I0.le I) : St Γ I L' w :=
  ⟨⟨Mem.le_trans hI h.ext.imm, h0, fun b hb => h.ext.new b (fun e => by
      cases hh : I b with
      | none => exact hb hh
      | some o => rw [hI b o hh] at e; cases e), h.ext.size, h.ext.keep, h.ext.os, h.ext.tape, h.ext.output⟩,
   ⟨h.own.has, (fun p hp => by
      cases hh : I p.1 with
      | none => rfl
      | some o => have := hI _ _ hh; rw [h.own.out p hp] at this; cases this), h.own.apart, h.own.from_⟩⟩
theorem pickW {ks : List Nat} {I' : Mem} {L' : List Chunk} (hk : noTwice ks = true) (hL : pickL ks L' = some Lu) (hI : Iw.le I') (h0 : Γ.I0.le Iw) (w : World) (h : St Γ I' L' w) : St Γ Iw Lu w := (h.pick ks hk hL).lessI hI h0
end
end Go.Proofs.YtddkkmdbolgnlaaDoor.Fw
namespace Go.Proofs.YtddkkmdbolgnlaaDoor.Fw
section
variable {P : Program} {ops : Array Oper} {Q : Exit → Act → World → Prop} {n : Nat} {ds : List Deferred} {l : List (Nat × Value)} {Γ : Env} {I Iw : Mem} {L Lu : List Chunk}
theorem WS.doneC {e g : Nat} {ld : Array Bool} (hin : Region.ready .any ops ld = []) (h : WE Q .normal n ds l Γ I L) : WS P ops (calm Q) Iw Lu g e 0 ld n ds l Γ I L := fun a w hf hst _ _ => ⟨hin, h a w hf hst⟩
theorem WS.weakL {e g f : Nat} {ld : Array Bool} {l' : List (Nat × Value)} (hs : ∀ t v, look l' t = some v → look l t = some v) (h : WS P ops Q Iw Lu g e f ld n ds l' Γ I L) : WS P ops Q Iw Lu g e f ld n ds l Γ I L := fun a w hf => h a w (hf.weak hs)
theorem WS.split {e g f : Nat} {ld : Array Bool} {b : Bool} (d' : Nat) (hl : look l d' = some (.bool b)) (ht : b = true → WS P ops Q Iw Lu g e f ld n ds ((d', .bool true) :: l) Γ I L) (hf : b = false → WS P ops Q Iw Lu g e f ld n ds ((d', .bool false) :: l) Γ I L) : WS P ops Q Iw Lu g e f ld n ds l Γ I L := by
  cases b with
  | true => exact WS.weakL (fun t v e => by rw [look_cons] at e; split at e <;> simp_all) (ht rfl)
  | false => exact WS.weakL (fun t v e => by rw [look_cons] at e; split at e <;> simp_all) (hf rfl)
end
end Go.Proofs.YtddkkmdbolgnlaaDoor.Fw

