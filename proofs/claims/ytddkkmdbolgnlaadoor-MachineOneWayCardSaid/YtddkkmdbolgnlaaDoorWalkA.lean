/- A part of the proof: steps of the walk and laws that the claim's theorem rests on; each lemma states its own conditions. -/
import Derived.WalkKit
import Derived.Below
import Derived.KernelRfl
import Derived.Deep.Quiet
import Derived.Laws.Bits
import Derived.IntWalk
set_option linter.unusedVariables false
set_option linter.unusedSimpArgs false
namespace Go.Proofs.YtddkkmdbolgnlaaDoor.Fw

/-! ### Frames -/
def look : List (Nat × Value) → Nat → Option Value
  | [], _ => none
  | (k, v) :: r, t => bif Nat.beq k t then some v else look r t

def ev (l : List (Nat × Value)) : Operand → Option Value
  | .tmp t => look l t
  | .const v => some v
  | .global g => some (.pointer (some ⟨g, 0, none⟩))
  | .func f => some (.func (.func f) #[] #[])

structure Fr (a : Act) (n : Nat) (ds : List Deferred) (l : List (Nat × Value)) : Prop where
  size : a.tmps.size = n
  defers : a.defers = ds
  get : ∀ t v, look l t = some v → a.tmps[t]? = some v

theorem look_cons_self (k : Nat) (v : Value) (r : List (Nat × Value)) : look ((k, v) :: r) k = some v := by
  simp [look]

theorem look_cons (k : Nat) (v : Value) (r : List (Nat × Value)) (t : Nat) : look ((k, v) :: r) t = if k = t then some v else look r t := by
  simp only [look, cond_eq_ite, Nat.beq_eq]

theorem Fr.ev {a : Act} {n : Nat} {ds : List Deferred} {l : List (Nat × Value)} (h : Fr a n ds l) {x : Operand} {v : Value} (hx : ev l x = some v) : a.eval x = v := by
  cases x with
  | tmp t =>
    have := h.get t v hx
    simp [Act.eval, Array.getD_eq_getD_getElem?, this]
  | const c => simpa [Fw.ev, Act.eval] using hx
  | global g => simpa [Fw.ev, Act.eval] using hx
  | func f => simpa [Fw.ev, Act.eval] using hx

/-- The frame behind an operation. -/
def putL (l : List (Nat × Value)) (d : Option Nat) (v : Value) : List (Nat × Value) :=
  match d with
  | some d => (d, v) :: l
  | none => l

theorem Fr.put {a : Act} {n : Nat} {ds : List Deferred} {l : List (Nat × Value)} (h : Fr a n ds l) {d : Nat} (hd : Nat.ble (d + 1) n = true) (v : Value) :
    Fr (a.put (some d) v) n ds ((d, v) :: l) := by
  have hd : d + 1 ≤ n := Nat.le_of_ble_eq_true hd
  refine ⟨by simp [Act.put, h.size], h.defers, fun t u ht => ?_⟩
  rw [look_cons] at ht
  simp only [Act.put]
  rw [Array.getElem?_setIfInBounds]
  have hs := h.size
  split at ht
  · rename_i e
    subst e
    have : d < a.tmps.size := by omega
    simp [this]
    simpa using ht
  · rename_i e
    rw [if_neg e]
    exact h.get t u ht

theorem Fr.putNone {a : Act} {n : Nat} {ds : List Deferred} {l : List (Nat × Value)} (h : Fr a n ds l) (v : Value) : Fr (a.put none v) n ds l := h

theorem Fr.weak {a : Act} {n : Nat} {ds : List Deferred} {l l' : List (Nat × Value)} (h : Fr a n ds l) (hs : ∀ t v, look l' t = some v → look l t = some v) : Fr a n ds l' :=
  ⟨h.size, h.defers, fun t v ht => h.get t v (hs t v ht)⟩

/-- Only some slots are kept. -/
def keepL (ks : List Nat) (l : List (Nat × Value)) : List (Nat × Value) :=
  match ks with
  | [] => []
  | k :: ks => match look l k with
    | some v => (k, v) :: keepL ks l
    | none => keepL ks l

theorem look_keepL (ks : List Nat) (l : List (Nat × Value)) (t : Nat) (v : Value) (h : look (keepL ks l) t = some v) : look l t = some v := by
  induction ks with
  | nil => simp [keepL, look] at h
  | cons k ks ih =>
    unfold keepL at h
    split at h
    · rename_i u hu
      rw [look_cons] at h
      split at h
      · rename_i e; subst e; rw [hu]; exact h
      · exact ih h
    · exact ih h

theorem Fr.keep {a : Act} {n : Nat} {ds : List Deferred} {l : List (Nat × Value)} (ks : List Nat) (h : Fr a n ds l) : Fr a n ds (keepL ks l) :=
  h.weak (look_keepL ks l)

/-- The arguments as slots. -/
def argL : Nat → List Value → List (Nat × Value)
  | _, [] => []
  | i, v :: r => (i, v) :: argL (i + 1) r

theorem look_argL (vs : List Value) (i t : Nat) (v : Value) (h : look (argL i vs) t = some v) : i ≤ t ∧ vs[t - i]? = some v := by
  induction vs generalizing i with
  | nil => simp [argL, look] at h
  | cons x r ih =>
    unfold argL at h
    rw [look_cons] at h
    split at h
    · rename_i e; subst e; simpa using h
    · rename_i e
      obtain ⟨h1, h2⟩ := ih (i + 1) h
      refine ⟨by omega, ?_⟩
      have : t - i = (t - (i + 1)) + 1 := by omega
      rw [this]; simpa using h2

theorem Fr.start (args : List Value) (n : Nat) (hn : Nat.ble args.length n = true) :
    Fr { tmps := args.toArray ++ Array.replicate (n - args.toArray.size) undef, defers := [] } n [] (argL 0 args) := by
  have hn : args.length ≤ n := Nat.le_of_ble_eq_true hn
  refine ⟨by simp; omega, rfl, fun t v h => ?_⟩
  obtain ⟨_, h2⟩ := look_argL args 0 t v h
  simp only [Nat.sub_zero] at h2
  have : t < args.length := (List.getElem?_eq_some_iff.1 h2).1
  rw [Array.getElem?_append_left (by simpa using this)]
  simpa using h2

/-! ### Memory -/
abbrev Mem := Nat → Option Obj
def memOf (w : World) : Mem := fun b => w.heap[b]?
def Mem.le (I J : Mem) : Prop := ∀ b o, I b = some o → J b = some o
theorem Mem.le_refl (I : Mem) : I.le I := fun _ _ h => h
theorem Mem.le_trans {I J K : Mem} (h : I.le J) (k : J.le K) : I.le K := fun b o e => k b o (h b o e)
def Mem.cell? (I : Mem) (a : Addr) : Option Value :=
  match I a.block with
  | some (.cells c _ _) => if a.spot.isSome then none else c[a.off]?
  | _ => none

theorem memOf_cell? (w : World) (a : Addr) : (memOf w).cell? a = w.cell? a := rfl

theorem Mem.le.cell {I J : Mem} (h : I.le J) {a : Addr} {v : Value} (hc : I.cell? a = some v) : J.cell? a = some v := by
  unfold Mem.cell? at hc ⊢
  split at hc
  · rename_i c e f hb; rw [h _ _ hb]; exact hc
  · simp at hc

abbrev Chunk := List (Nat × Obj)

/-- What stands behind a call's start, apart from what it owns: what was there stays (but for blocks that it may write); the part 'I' stays. -/
structure Ext (w0 : World) (I0 : Mem) (M : List Nat) (I : Mem) (w : World) : Prop where
  imm : I.le (memOf w)
  le0 : I0.le I
  new : ∀ b, I b ≠ none → I0 b ≠ none ∨ w0.heap.size ≤ b ∨ b ∈ M
  size : w0.heap.size ≤ w.heap.size
  keep : ∀ b, b < w0.heap.size → b ∉ M → w.heap[b]? = w0.heap[b]?
  os : w.os = w0.os
  tape : w.tape = w0.tape
  output : w.output = w0.output

structure Own (w0 : World) (M : List Nat) (I : Mem) (C : Chunk) (w : World) : Prop where
  has : ∀ p ∈ C, w.heap[p.1]? = some p.2
  out : ∀ p ∈ C, I p.1 = none
  apart : (C.map Prod.fst).Nodup
  from_ : ∀ p ∈ C, w0.heap.size ≤ p.1 ∨ p.1 ∈ M

structure Env where
  w0 : World
  I0 : Mem
  M : List Nat

structure St (Γ : Env) (I : Mem) (L : List Chunk) (w : World) : Prop where
  ext : Ext Γ.w0 Γ.I0 Γ.M I w
  own : Own Γ.w0 Γ.M I L.flatten w

theorem Own.lt {w0 : World} {M : List Nat} {I : Mem} {C : Chunk} {w : World} (h : Own w0 M I C w) : ∀ p ∈ C, p.1 < w.heap.size := fun p hp => by
  have := h.has p hp
  exact (Array.getElem?_eq_some_iff.1 this).1

theorem Ext.start (w0 : World) (I0 : Mem) (M : List Nat) (h : I0.le (memOf w0)) : Ext w0 I0 M I0 w0 :=
  ⟨h, Mem.le_refl _, fun _ h => .inl h, Nat.le_refl _, fun _ _ _ => rfl, rfl, rfl, rfl⟩

theorem St.drew {Γ : Env} {I : Mem} {L : List Chunk} {w : World} (h : St Γ I L w) (n : Nat) : St Γ I L { w with drawn := n } :=
  ⟨⟨h.ext.imm, h.ext.le0, h.ext.new, h.ext.size, h.ext.keep, h.ext.os, h.ext.tape, h.ext.output⟩, ⟨h.own.has, h.own.out, h.own.apart, h.own.from_⟩⟩

theorem heap_push_old (w : World) (o : Obj) (b : Nat) (x : Obj) (h : w.heap[b]? = some x) : (w.heap.push o)[b]? = some x := by
  have : b < w.heap.size := (Array.getElem?_eq_some_iff.1 h).1
  rw [Array.getElem?_push, if_neg (by omega)]; exact h

theorem St.alloc {Γ : Env} {I : Mem} {L : List Chunk} {w : World} (h : St Γ I L w) (o : Obj) : St Γ I ([(w.heap.size, o)] :: L) { w with heap := w.heap.push o } := by
  refine ⟨⟨fun b x hb => heap_push_old w o b x (h.ext.imm b x hb), h.ext.le0, h.ext.new, by have := h.ext.size; simp; omega, fun b hb hm => ?_, h.ext.os, h.ext.tape, h.ext.output⟩, ⟨fun p hp => ?_, fun p hp => ?_, ?_, fun p hp => ?_⟩⟩
  · have := h.ext.size
    show (w.heap.push o)[b]? = _
    rw [Array.getElem?_push, if_neg (by omega)]; exact h.ext.keep b hb hm
  · simp only [List.flatten_cons, List.singleton_append, List.mem_cons] at hp
    rcases hp with rfl | hp
    · simp
    · exact heap_push_old w o _ _ (h.own.has p hp)
  · simp only [List.flatten_cons, List.singleton_append, List.mem_cons] at hp
    rcases hp with rfl | hp
    · cases hI : I w.heap.size with
      | none => rfl
      | some x => have := h.ext.imm _ _ hI; simp [memOf] at this
    · exact h.own.out p hp
  · simp only [List.flatten_cons, List.singleton_append, List.map_cons, List.nodup_cons]
    refine ⟨fun hm => ?_, h.own.apart⟩
    obtain ⟨p, hp, he⟩ := List.mem_map.1 hm
    have := h.own.lt p hp
    omega
  · simp only [List.flatten_cons, List.singleton_append, List.mem_cons] at hp
    rcases hp with rfl | hp
    · exact .inl h.ext.size
    · exact h.own.from_ p hp

end Go.Proofs.YtddkkmdbolgnlaaDoor.Fw

namespace Go.Proofs.YtddkkmdbolgnlaaDoor.Fw

theorem mem_flatten_set {L : List Chunk} {k : Nat} {C C' : Chunk} (_hk : L[k]? = some C) {p : Nat × Obj} (hp : p ∈ (L.set k C').flatten) :
    p ∈ C' ∨ ∃ i, i ≠ k ∧ ∃ D, L[i]? = some D ∧ p ∈ D := by
  obtain ⟨D, hD, hpD⟩ := List.mem_flatten.1 hp
  obtain ⟨i, hi⟩ := List.mem_iff_getElem?.1 hD
  rw [List.getElem?_set] at hi
  split at hi
  · rename_i e
    subst e
    split at hi
    · injection hi with hi; subst hi; exact .inl hpD
    · simp at hi
  · rename_i e
    exact .inr ⟨i, fun h => e h.symm, D, hi, hpD⟩

theorem St.perm {Γ : Env} {I : Mem} {L L' : List Chunk} {w : World} (h : St Γ I L w) (hp : L'.flatten.Perm L.flatten) : St Γ I L' w :=
  ⟨h.ext, ⟨fun p hm => h.own.has p (hp.mem_iff.1 hm), fun p hm => h.own.out p (hp.mem_iff.1 hm), (hp.map Prod.fst).nodup_iff.2 h.own.apart, fun p hm => h.own.from_ p (hp.mem_iff.1 hm)⟩⟩

theorem perm_top {L : List Chunk} {k : Nat} {C : Chunk} (hk : L[k]? = some C) : (C :: L.eraseIdx k).flatten.Perm L.flatten := by
  induction L generalizing k with
  | nil => simp at hk
  | cons D L ih =>
    cases k with
    | zero => simp at hk; subst hk; simp
    | succ k =>
      simp only [List.getElem?_cons_succ] at hk
      have := ih hk
      simp only [List.eraseIdx_cons_succ, List.flatten_cons] at *
      refine List.Perm.trans ?_ (List.Perm.append_left D this)
      rw [← List.append_assoc, ← List.append_assoc]
      exact List.Perm.append_right _ List.perm_append_comm

theorem St.top {Γ : Env} {I : Mem} {L : List Chunk} {w : World} (h : St Γ I L w) {k : Nat} {C : Chunk} (hk : L[k]? = some C) : St Γ I (C :: L.eraseIdx k) w :=
  h.perm (perm_top hk)

theorem St.join {Γ : Env} {I : Mem} {L : List Chunk} {C D : Chunk} {w : World} (h : St Γ I (C :: D :: L) w) : St Γ I ((C ++ D) :: L) w :=
  h.perm (by simp)
theorem St.part {Γ : Env} {I : Mem} {L : List Chunk} {C D : Chunk} {w : World} (h : St Γ I ((C ++ D) :: L) w) : St Γ I (C :: D :: L) w :=
  h.perm (by simp)

theorem St.drop {Γ : Env} {I : Mem} {L : List Chunk} {C : Chunk} {w : World} (h : St Γ I (C :: L) w) : St Γ I L w := by
  obtain ⟨e, o⟩ := h
  simp only [List.flatten_cons] at o
  refine ⟨e, ⟨fun p hp => o.has p (List.mem_append_right _ hp), fun p hp => o.out p (List.mem_append_right _ hp), ?_, fun p hp => o.from_ p (List.mem_append_right _ hp)⟩⟩
  have := o.apart
  rw [List.map_append] at this
  exact (List.nodup_append.1 this).2.1

/-- The chunk on top is laid aside: it stays as it is from here on. -/
def Mem.add (I : Mem) (C : Chunk) : Mem := fun b => match C.lookup b with
  | some o => some o
  | none => I b

theorem lookup_some_mem {C : Chunk} {b : Nat} {o : Obj} (h : C.lookup b = some o) : (b, o) ∈ C := by
  induction C with
  | nil => simp at h
  | cons p C ih =>
    obtain ⟨k, x⟩ := p
    rw [List.lookup_cons] at h
    split at h
    · rename_i e
      have : b = k := by simpa using e
      subst this; injection h with h; subst h; exact List.mem_cons_self
    · exact List.mem_cons_of_mem _ (ih h)

theorem lookup_of_mem {C : Chunk} (hn : (C.map Prod.fst).Nodup) {b : Nat} {o : Obj} (h : (b, o) ∈ C) : C.lookup b = some o := by
  induction C with
  | nil => simp at h
  | cons p C ih =>
    obtain ⟨k, x⟩ := p
    simp only [List.map_cons, List.nodup_cons] at hn
    rw [List.lookup_cons]
    rcases List.mem_cons.1 h with e | h
    · injection e with e1 e2; subst e1; subst e2; simp
    · have : b ≠ k := fun e => hn.1 (e ▸ List.mem_map.2 ⟨(b, o), h, rfl⟩)
      have hb : (b == k) = false := by simpa using this
      rw [hb]; exact ih hn.2 h

theorem Mem.le_add {I : Mem} {C : Chunk} (h : ∀ p ∈ C, I p.1 = none) : I.le (I.add C) := fun b o hb => by
  unfold Mem.add
  split
  · rename_i x hx
    have := h _ (lookup_some_mem hx)
    simp only at this
    rw [this] at hb; simp at hb
  · exact hb

theorem Mem.add_mem {I : Mem} {C : Chunk} (hn : (C.map Prod.fst).Nodup) {b : Nat} {o : Obj} (h : (b, o) ∈ C) : (I.add C) b = some o := by
  unfold Mem.add; rw [lookup_of_mem hn h]

theorem St.freeze {Γ : Env} {I : Mem} {L : List Chunk} {C : Chunk} {w : World} (h : St Γ I (C :: L) w) : St Γ (I.add C) L w := by
  have hd := h.drop
  obtain ⟨e, o⟩ := h
  simp only [List.flatten_cons] at o
  have hap := o.apart
  rw [List.map_append] at hap
  have hnC := (List.nodup_append.1 hap).1
  have hdis := (List.nodup_append.1 hap).2.2
  have hout : ∀ p ∈ C, I p.1 = none := fun p hp => o.out p (List.mem_append_left _ hp)
  refine ⟨⟨fun b x hb => ?_, Mem.le_trans e.le0 (Mem.le_add hout), fun b hb => ?_, e.size, e.keep, e.os, e.tape, e.output⟩, ⟨hd.own.has, fun p hp => ?_, hd.own.apart, hd.own.from_⟩⟩
  · unfold Mem.add at hb
    split at hb
    · rename_i y hy
      injection hb with hb; subst hb
      exact o.has (b, y) (List.mem_append_left _ (lookup_some_mem hy))
    · exact e.imm b x hb
  · unfold Mem.add at hb
    split at hb
    · rename_i y hy
      exact .inr (o.from_ (b, y) (List.mem_append_left _ (lookup_some_mem hy)))
    · exact e.new b hb
  · unfold Mem.add
    split
    · rename_i y hy
      exfalso
      exact hdis p.1 (List.mem_map.2 ⟨_, lookup_some_mem hy, rfl⟩) p.1 (List.mem_map.2 ⟨p, hp, rfl⟩) rfl
    · exact o.out p (List.mem_append_right _ hp)

/-- Behind a call that was handed the chunk on top to write: it leaves another chunk there. -/
theorem St.call {Γ : Env} {I I' : Mem} {L : List Chunk} {C C' : Chunk} {w w' : World} (h : St Γ I (C :: L) w)
    (he : Ext w I (C.map Prod.fst) I' w') (ho : Own w (C.map Prod.fst) I' C' w') : St Γ I' (C' :: L) w' := by
  have hd := h.drop
  obtain ⟨e, o⟩ := h
  simp only [List.flatten_cons] at o
  have hap := o.apart
  rw [List.map_append] at hap
  have hdis := (List.nodup_append.1 hap).2.2
  have hnot : ∀ p ∈ L.flatten, p.1 ∉ C.map Prod.fst := fun p hp hm => hdis p.1 hm p.1 (List.mem_map.2 ⟨p, hp, rfl⟩) rfl
  have hlt := hd.own.lt
  refine ⟨⟨he.imm, Mem.le_trans e.le0 he.le0, fun b hb => ?_, Nat.le_trans e.size he.size, fun b hb hm => ?_, he.os.trans e.os, he.tape.trans e.tape, he.output.trans e.output⟩, ⟨fun p hp => ?_, fun p hp => ?_, ?_, fun p hp => ?_⟩⟩
  · rcases he.new b hb with h | h | h
    · exact e.new b h
    · exact .inr (.inl (Nat.le_trans e.size h))
    · obtain ⟨p, hp, rfl⟩ := List.mem_map.1 h
      exact .inr (o.from_ p (List.mem_append_left _ hp))
  · rw [he.keep b (Nat.lt_of_lt_of_le hb e.size) (fun hC => ?_)]
    · exact e.keep b hb hm
    · obtain ⟨p, hp, rfl⟩ := List.mem_map.1 hC
      rcases o.from_ p (List.mem_append_left _ hp) with h | h
      · omega
      · exact hm h
  · simp only [List.flatten_cons] at hp
    rcases List.mem_append.1 hp with hp | hp
    · exact ho.has p hp
    · rw [he.keep p.1 (hlt p hp) (hnot p hp)]; exact hd.own.has p hp
  · simp only [List.flatten_cons] at hp
    rcases List.mem_append.1 hp with hp | hp
    · exact ho.out p hp
    · cases hI : I' p.1 with
      | none => rfl
      | some x =>
        rcases he.new p.1 (by rw [hI]; simp) with h | h | h
        · exact absurd (hd.own.out p hp) h
        · have := hlt p hp; omega
        · exact absurd h (hnot p hp)
  · simp only [List.flatten_cons, List.map_append]
    refine List.nodup_append.2 ⟨ho.apart, hd.own.apart, fun x hx y hy hxy => ?_⟩
    subst hxy
    obtain ⟨p, hp, rfl⟩ := List.mem_map.1 hx
    obtain ⟨q, hq, hqe⟩ := List.mem_map.1 hy
    rcases ho.from_ p hp with h | h
    · have := hlt q hq; omega
    · exact hnot q hq (hqe ▸ h)
  · simp only [List.flatten_cons] at hp
    rcases List.mem_append.1 hp with hp | hp
    · rcases ho.from_ p hp with h | h
      · exact .inl (Nat.le_trans e.size h)
      · obtain ⟨q, hq, hqe⟩ := List.mem_map.1 h
        rw [← hqe]; exact o.from_ q (List.mem_append_left _ hq)
    · exact hd.own.from_ p hp

theorem St.nilTop {Γ : Env} {I : Mem} {L : List Chunk} {w : World} (h : St Γ I L w) : St Γ I ([] :: L) w := h.perm (by simp)

/-- Behind a call that writes nothing that was there. -/
theorem St.call0 {Γ : Env} {I I' : Mem} {L : List Chunk} {C' : Chunk} {w w' : World} (h : St Γ I L w)
    (he : Ext w I [] I' w') (ho : Own w [] I' C' w') : St Γ I' (C' :: L) w' := h.nilTop.call (C := []) he ho

/-- A block of the call's own is written. -/
theorem St.setBlock {Γ : Env} {I : Mem} {L : List Chunk} {w : World} {b : Nat} {o o' : Obj} (h : St Γ I ([(b, o)] :: L) w) :
    St Γ I ([(b, o')] :: L) { w with heap := w.heap.setIfInBounds b o' } := by
  have hb : b < w.heap.size := h.own.lt (b, o) (by simp)
  refine h.call (C := [(b, o)]) (C' := [(b, o')]) ⟨fun x y hx => ?_, Mem.le_refl _, fun x hx => .inl hx, by simp, fun x _ hm => ?_, rfl, rfl, rfl⟩
    ⟨fun p hp => ?_, fun p hp => ?_, by simp, fun p hp => ?_⟩
  · have hne : b ≠ x := fun e => by
      subst e
      have := h.own.out (b, o) (by simp)
      simp only at this
      rw [this] at hx; simp at hx
    show (w.heap.setIfInBounds b o')[x]? = _
    rw [Array.getElem?_setIfInBounds, if_neg hne]; exact h.ext.imm x y hx
  · have hne : b ≠ x := fun e => hm (by simp [e])
    show (w.heap.setIfInBounds b o')[x]? = _
    rw [Array.getElem?_setIfInBounds, if_neg hne]
  · simp only [List.mem_singleton] at hp; subst hp
    show (w.heap.setIfInBounds b o')[b]? = _
    rw [Array.getElem?_setIfInBounds, if_pos rfl, if_pos hb]
  · simp only [List.mem_singleton] at hp; subst hp
    exact h.own.out (b, o) (by simp)
  · simp only [List.mem_singleton] at hp; subst hp
    exact .inr (by simp)

/-- The same at the chunk k. -/
theorem perm_set {L : List Chunk} {k : Nat} {C C' : Chunk} (hk : L[k]? = some C) : (L.set k C').flatten.Perm (C' :: L.eraseIdx k).flatten := by
  have h1 : (L.set k C')[k]? = some C' := by
    rw [List.getElem?_set, if_pos rfl, if_pos (List.getElem?_eq_some_iff.1 hk).1]
  have := perm_top h1
  have h2 : (L.set k C').eraseIdx k = L.eraseIdx k := by
    rw [List.eraseIdx_set_eq]
  rw [h2] at this
  exact this.symm

theorem St.setAt {Γ : Env} {I : Mem} {L : List Chunk} {w : World} {k b : Nat} {o o' : Obj} (h : St Γ I L w) (hk : L[k]? = some [(b, o)]) :
    St Γ I (L.set k [(b, o')]) { w with heap := w.heap.setIfInBounds b o' } :=
  (h.top hk).setBlock.perm (perm_set hk)

theorem mem_of_get {L : List Chunk} {k b : Nat} {o : Obj} (hk : L[k]? = some [(b, o)]) : (b, o) ∈ L.flatten :=
  List.mem_flatten.2 ⟨_, List.mem_of_getElem? hk, by simp⟩

theorem St.at_ {Γ : Env} {I : Mem} {L : List Chunk} {w : World} {k b : Nat} {o : Obj} (h : St Γ I L w) (hk : L[k]? = some [(b, o)]) : w.heap[b]? = some o :=
  h.own.has _ (mem_of_get hk)

theorem St.setCell {Γ : Env} {I : Mem} {L : List Chunk} {w : World} {k b off : Nat} {c : Array Value} {E : TypeId} {fz : Nat × Nat} (h : St Γ I L w)
    (hk : L[k]? = some [(b, .cells c E fz)]) (v : Value) : St Γ I (L.set k [(b, .cells (c.setIfInBounds off v) E fz)]) (w.setCell ⟨b, off, none⟩ v) := by
  have hb := h.at_ hk
  have : w.setCell ⟨b, off, none⟩ v = { w with heap := w.heap.setIfInBounds b (.cells (c.setIfInBounds off v) E fz) } := by
    unfold World.setCell
    congr 1
    apply Array.ext_getElem?
    intro i
    rw [Array.getElem?_modify, Array.getElem?_setIfInBounds]
    split
    · rename_i e
      subst e
      rw [hb]
      have : b < w.heap.size := (Array.getElem?_eq_some_iff.1 hb).1
      simp [this]
    · rfl
  rw [this]
  exact h.setAt hk

theorem St.cell_own {Γ : Env} {I : Mem} {L : List Chunk} {w : World} {k b off : Nat} {c : Array Value} {E : TypeId} {fz : Nat × Nat} {v : Value} (h : St Γ I L w)
    (hk : L[k]? = some [(b, .cells c E fz)]) (hc : c[off]? = some v) : w.cell? ⟨b, off, none⟩ = some v := by
  simp [World.cell?, h.at_ hk, hc]

theorem St.cell_imm {Γ : Env} {I : Mem} {L : List Chunk} {w : World} {a : Addr} {v : Value} (h : St Γ I L w) (hc : I.cell? a = some v) : w.cell? a = some v :=
  (Mem.le.cell h.ext.imm hc)

end Go.Proofs.YtddkkmdbolgnlaaDoor.Fw

namespace Go.Proofs.YtddkkmdbolgnlaaDoor.Fw

/-- How a region's operations are walked: in the order of the text; in any order, the memory staying as it is; so, no operation being a call. -/
inductive Md where
  | seq | any | pure
class Md.Calls (m : Md) : Prop where
  ne : m ≠ .pure
instance : Md.Calls .seq := ⟨by simp⟩
instance : Md.Calls .any := ⟨by simp⟩
/-- Operations that come to a value, in every world of a class, and do nothing else. -/
def wpPure (P : Program) (ops : Array Oper) (C : World → Prop) (Q : Act → Prop) : List Oper → Act → Prop
  | [], a => Q a
  | o :: rest, a => if Region.wanted o (yielded ops a.tmps) then ∃ v, (∀ w, C w → (execOp a.eval o).run P w = .ok (.value v) w) ∧ wpPure P ops C Q rest (a.put o.dst v) else wpPure P ops C Q rest (a.put o.dst undef)
/-- The rest of a region: in the order of the text (.seq); or of a region that draws its order, whose operations leave the part that stays and the chunks as they are (.any). -/
def WL (m : Md) (P : Program) (ops : Array Oper) (Q : Exit → Act → World → Prop) (rest : List Oper) (n : Nat) (ds : List Deferred) (l : List (Nat × Value)) (Γ : Env) (I : Mem) (L : List Chunk) : Prop :=
  match m with
  | .seq => ∀ a w, Fr a n ds l → St Γ I L w → wpList P ops Q rest a w
  | .pure => ∀ a, Fr a n ds l → wpPure P ops (St Γ I L) (fun a => ∀ w, St Γ I L w → Q .normal a w) rest a
  | .any => ∀ a, Fr a n ds l → wpQuiet P ops (St Γ I L) (fun a => ∀ w, St Γ I L w → Q .normal a w) rest a
def WC (P : Program) (c : Code) (Q : Exit → Act → World → Prop) (n : Nat) (ds : List Deferred) (l : List (Nat × Value)) (Γ : Env) (I : Mem) (L : List Chunk) : Prop :=
  ∀ a w, Fr a n ds l → St Γ I L w → c.wp P Q a w
def WE (Q : Exit → Act → World → Prop) (e : Exit) (n : Nat) (ds : List Deferred) (l : List (Nat × Value)) (Γ : Env) (I : Mem) (L : List Chunk) : Prop :=
  ∀ a w, Fr a n ds l → St Γ I L w → Q e a w

section
variable {P : Program} {ops : Array Oper} {Q : Exit → Act → World → Prop} {rest : List Oper} {n : Nat} {ds : List Deferred} {l : List (Nat × Value)} {Γ : Env} {I : Mem} {L : List Chunk}

/-! ### Code -/
theorem WC.seq {x y : Code} (h : WC P x (Exit.then (fun a w => y.wp P Q a w) Q) n ds l Γ I L) : WC P (.seq x y) Q n ds l Γ I L :=
  fun a w hf hs => wp_seq (h a w hf hs)
theorem WC.block {id : Nat} {c : Code} (h : WC P c (Exit.inBlock id Q) n ds l Γ I L) : WC P (.block id c) Q n ds l Γ I L :=
  fun a w hf hs => wp_block (h a w hf hs)
theorem WC.skip (h : WE Q .normal n ds l Γ I L) : WC P .skip Q n ds l Γ I L := fun a w hf hs => wp_skip (h a w hf hs)
theorem WC.label {i : Nat} (h : WE Q .normal n ds l Γ I L) : WC P (.label i) Q n ds l Γ I L := fun a w hf hs => wp_label (h a w hf hs)
theorem WC.exit {id : Nat} (h : WE Q (.exit id) n ds l Γ I L) : WC P (.exit id) Q n ds l Γ I L := fun a w hf hs => wp_exit (h a w hf hs)
theorem WC.ret (h : WE Q .ret n ds l Γ I L) : WC P .ret Q n ds l Γ I L := fun a w hf hs => wp_ret (h a w hf hs)
theorem WC.region {id : Nat} {os : List Oper} (h : WL .seq P os.toArray Q os n ds l Γ I L) : WC P (.region id os.toArray false) Q n ds l Γ I L :=
  fun a w hf hs => wp_region_lit (h a w hf hs)
/-- A region that draws its order, in whose operations nothing but slots turns. -/
theorem WC.region_draw {id : Nat} {os : List Oper} (hm : P.follows .mixedOrders = true) (hB : Region.lexB .any os.toArray = true) (h : WL .any P os.toArray Q os n ds l Γ I L) : WC P (.region id os.toArray true) Q n ds l Γ I L :=
  fun a w hf hs => wp_region_quiet (C := St Γ I L) hm hB (hs.drew _) (by simpa using h a hf)
theorem WC.cond_true {c : Operand} {x y : Code} (hc : ev l c = some (.bool true)) (h : WC P x Q n ds l Γ I L) : WC P (.cond c x y) Q n ds l Γ I L :=
  fun a w hf hs => wp_cond_true (hf.ev hc) (h a w hf hs)
theorem WC.cond_false {c : Operand} {x y : Code} (hc : ev l c = some (.bool false)) (h : WC P y Q n ds l Γ I L) : WC P (.cond c x y) Q n ds l Γ I L :=
  fun a w hf hs => wp_cond_false (hf.ev hc) (h a w hf hs)
theorem WC.cond {c : Operand} {x y : Code} {b : Bool} (hc : ev l c = some (.bool b)) (ht : b = true → WC P x Q n ds l Γ I L) (hf : b = false → WC P y Q n ds l Γ I L) : WC P (.cond c x y) Q n ds l Γ I L :=
  fun a w hr hs => wp_cond_split (hr.ev hc) (fun e => ht e a w hr hs) (fun e => hf e a w hr hs)

/-- A test on a slot: behind it the slot holds the truth value itself. -/
theorem WC.condT {k : Nat} {x y : Code} {b : Bool} (hc : look l k = some (.bool b)) (ht : b = true → WC P x Q n ds ((k, .bool true) :: l) Γ I L) (hf : b = false → WC P y Q n ds ((k, .bool false) :: l) Γ I L) : WC P (.cond (.tmp k) x y) Q n ds l Γ I L := by
  cases b with
  | true => exact WC.cond_true hc fun a w hfr hs => ht rfl a w (hfr.weak fun t v e => by rw [look_cons] at e; split at e <;> simp_all) hs
  | false => exact WC.cond_false hc fun a w hfr hs => hf rfl a w (hfr.weak fun t v e => by rw [look_cons] at e; split at e <;> simp_all) hs

/-- All of l' stands in l. -/
def Sub (l : List (Nat × Value)) : List (Nat × Value) → Prop
  | [] => True
  | (k, v) :: r => look l k = some v ∧ Sub l r

theorem Sub.look {l l' : List (Nat × Value)} (h : Sub l l') : ∀ t v, look l' t = some v → look l t = some v := by
  induction l' with
  | nil => intro t v h; simp [Fw.look] at h
  | cons p r ih =>
    obtain ⟨k, x⟩ := p
    intro t v ht
    rw [look_cons] at ht
    split at ht
    · rename_i e; subst e; injection ht with ht; subst ht; exact h.1
    · exact ih h.2 t v ht

theorem WC.weak {c : Code} (l' : List (Nat × Value)) (hs : Sub l l') (h : WC P c Q n ds l' Γ I L) : WC P c Q n ds l Γ I L :=
  fun a w hf hst => h a w (hf.weak hs.look) hst
theorem WE.weak {e : Exit} (l' : List (Nat × Value)) (hs : Sub l l') (h : WE Q e n ds l' Γ I L) : WE Q e n ds l Γ I L :=
  fun a w hf hst => h a w (hf.weak hs.look) hst
theorem WC.keep {c : Code} (ks : List Nat) (h : WC P c Q n ds (keepL ks l) Γ I L) : WC P c Q n ds l Γ I L :=
  fun a w hf hst => h a w (hf.keep ks) hst
theorem WE.keep {e : Exit} (ks : List Nat) (h : WE Q e n ds (keepL ks l) Γ I L) : WE Q e n ds l Γ I L :=
  fun a w hf hst => h a w (hf.keep ks) hst

theorem WC.perm {c : Code} {L' : List Chunk} (hp : ∀ w, St Γ I L w → St Γ I L' w) (h : WC P c Q n ds l Γ I L') : WC P c Q n ds l Γ I L :=
  fun a w hf hst => h a w hf (hp w hst)
theorem WL.perm {L' : List Chunk} (hp : ∀ w, St Γ I L w → St Γ I L' w) (h : WL .seq P ops Q rest n ds l Γ I L') : WL .seq P ops Q rest n ds l Γ I L :=
  fun a w hf hst => h a w hf (hp w hst)
theorem WE.perm {e : Exit} {L' : List Chunk} (hp : ∀ w, St Γ I L w → St Γ I L' w) (h : WE Q e n ds l Γ I L') : WE Q e n ds l Γ I L :=
  fun a w hf hst => h a w hf (hp w hst)

/-! ### Ends -/
theorem WE.then_normal {y : Code} {Q' : Exit → Act → World → Prop} (h : WC P y Q n ds l Γ I L) : WE (Exit.then (fun a w => y.wp P Q a w) Q') .normal n ds l Γ I L := h
theorem WE.then_exit {id : Nat} {nx : Act → World → Prop} (h : WE Q (.exit id) n ds l Γ I L) : WE (Exit.then nx Q) (.exit id) n ds l Γ I L := h
theorem WE.then_ret {nx : Act → World → Prop} (h : WE Q .ret n ds l Γ I L) : WE (Exit.then nx Q) .ret n ds l Γ I L := h
theorem WE.block_normal {id : Nat} (h : WE Q .normal n ds l Γ I L) : WE (Exit.inBlock id Q) .normal n ds l Γ I L := h
theorem WE.block_ret {id : Nat} (h : WE Q .ret n ds l Γ I L) : WE (Exit.inBlock id Q) .ret n ds l Γ I L := h
theorem WE.block_exit {id : Nat} (h : WE Q .normal n ds l Γ I L) : WE (Exit.inBlock id Q) (.exit id) n ds l Γ I L := fun a w hf hs => by
  simp only [Exit.inBlock, if_true]; exact h a w hf hs
theorem WE.block_other {id id' : Nat} (hne : Nat.beq id' id = false) (h : WE Q (.exit id') n ds l Γ I L) : WE (Exit.inBlock id Q) (.exit id') n ds l Γ I L := fun a w hf hs => by
  simp only [Exit.inBlock]; rw [if_neg (Nat.ne_of_beq_eq_false hne)]; exact h a w hf hs

/-- A known place: the frame, the part that stays, the chunks, by some data. -/
def Mid {X : Type} (S : X → List (Nat × Value) × Mem × List Chunk) (inv : X → Prop) (n : Nat) (ds : List Deferred) (Γ : Env) (a : Act) (w : World) : Prop :=
  ∃ x, inv x ∧ Fr a n ds (S x).1 ∧ St Γ (S x).2.1 (S x).2.2 w

theorem WE.mid {X : Type} {S : X → List (Nat × Value) × Mem × List Chunk} {inv : X → Prop} (x : X) (hi : inv x) (hl : Sub l (S x).1) (hI : (S x).2.1 = I) (hL : (S x).2.2 = L) :
    WE (Exit.then (Mid S inv n ds Γ) Q) .normal n ds l Γ I L := fun _ _ hf hs => by
  subst hI; subst hL
  exact ⟨x, hi, hf.weak hl.look, hs⟩

theorem WC.seq_cut {X : Type} (S : X → List (Nat × Value) × Mem × List Chunk) (inv : X → Prop) {x y : Code}
    (h : WC P x (Exit.then (Mid S inv n ds Γ) Q) n ds l Γ I L) (hy : ∀ z, inv z → WC P y Q n ds (S z).1 Γ (S z).2.1 (S z).2.2) : WC P (.seq x y) Q n ds l Γ I L :=
  fun a w hf hs => wp_seq (wp_mono (h a w hf hs) fun e a' w' q => by
    cases e with
    | normal => obtain ⟨z, hz, hf', hs'⟩ := q; exact hy z hz a' w' hf' hs'
    | _ => exact q)

def Back {X : Type} (S : X → List (Nat × Value) × Mem × List Chunk) (inv : X → Prop) (μ : X → Nat) (x : X) (n : Nat) (ds : List Deferred) (Γ : Env) (a : Act) (w : World) : Prop :=
  ∃ x', inv x' ∧ μ x' < μ x ∧ Fr a n ds (S x').1 ∧ St Γ (S x').2.1 (S x').2.2 w

theorem WE.back {X : Type} {S : X → List (Nat × Value) × Mem × List Chunk} {inv : X → Prop} {μ : X → Nat} {x : X} (x' : X) (hi : inv x') (hm : μ x' < μ x) (hl : Sub l (S x').1) (hI : (S x').2.1 = I) (hL : (S x').2.2 = L) :
    WE (Exit.then (Back S inv μ x n ds Γ) Q) .normal n ds l Γ I L := fun _ _ hf hs => by
  subst hI; subst hL
  exact ⟨x', hi, hm, hf.weak hl.look, hs⟩

theorem WC.loop {X : Type} (S : X → List (Nat × Value) × Mem × List Chunk) (inv : X → Prop) (μ : X → Nat) (x0 : X) {c : Code} (h0 : inv x0) (hl : Sub l (S x0).1) (hI : (S x0).2.1 = I) (hL : (S x0).2.2 = L)
    (round : ∀ x, inv x → WC P c (Exit.then (Back S inv μ x n ds Γ) Q) n ds (S x).1 Γ (S x).2.1 (S x).2.2) : WC P (.loop c) Q n ds l Γ I L := by
  subst hI; subst hL
  intro a w hf hs b k cs
  have key : ∀ m x a w, μ x = m → inv x → Fr a n ds (S x).1 → St Γ (S x).2.1 (S x).2.2 w →
      ∃ e a' w', Q e a' w' ∧ Arrives P (lone (b.at a (.code c :: .inLoop c :: k)) cs w) b k cs e a' w' := by
    intro m
    induction m using Nat.strongRecOn with
    | _ m ih =>
      intro x a w hm hx hf hs
      obtain ⟨e, a₁, w₁, hq, harr⟩ := round x hx a w hf hs b (.inLoop c :: k) cs
      cases e with
      | normal =>
        obtain ⟨x', hx', hlt, hf', hs'⟩ := hq
        obtain ⟨e₂, a₂, w₂, hq₂, harr₂⟩ := ih (μ x') (hm ▸ hlt) x' a₁ w₁ rfl hx' hf' hs'
        exact ⟨e₂, a₂, w₂, hq₂, .of_steps (Steps.trans harr (.one step_inLoop)) harr₂⟩
      | exit id => exact ⟨_, a₁, w₁, hq, .pass (x := .inLoop c) rfl (fun _ _ => .inl (by simp)) harr⟩
      | goto i => exact ⟨_, a₁, w₁, hq, .pass (x := .inLoop c) rfl (fun _ _ => .inl (by simp)) harr⟩
      | ret => exact ⟨_, a₁, w₁, hq, .pass (x := .inLoop c) rfl (fun _ _ => .inl (by simp)) harr⟩
      | panic ch => exact ⟨_, a₁, w₁, hq, .pass (x := .inLoop c) rfl (fun _ _ => .inl (by simp)) harr⟩
      | outgrown => exact ⟨_, a₁, w₁, hq, .pass (x := .inLoop c) rfl (fun _ _ => .inl (by simp)) harr⟩
  obtain ⟨e, a', w', hq, harr⟩ := key (μ x0) x0 a w rfl h0 (hf.weak hl.look) hs
  exact ⟨e, a', w', hq, .of_steps (.one step_loop) harr⟩
end
end Go.Proofs.YtddkkmdbolgnlaaDoor.Fw

namespace Go.Proofs.YtddkkmdbolgnlaaDoor.Fw

/-! ### What the walk asks of types -/
def aggT (P : Program) (t : TypeId) : Option Bool := (P.underlying t).map fun d => match d with | .struct _ | .array _ _ => true | _ => false
def szT (P : Program) (t : TypeId) : Option Nat := (P.info? t).map (·.size)
def bytesT (P : Program) (t : TypeId) : Option Nat := (P.info? t).map (·.bytes)
def zeroT (P : Program) (t : TypeId) : Option Value := (P.info? t).bind (·.zero)
def sliceT (P : Program) (t : TypeId) : Option TypeId := match P.underlying t with | some (.slice e) => some e | _ => none
def arrT (P : Program) (t : TypeId) : Option (Nat × TypeId) := match P.underlying t with | some (.array n e) => some (n, e) | _ => none
def mapT (P : Program) (t : TypeId) : Option (TypeId × TypeId) := match P.underlying t with | some (.map k e) => some (k, e) | _ => none
def intT (P : Program) (t : TypeId) : Option IntKind := match P.underlying t with | some (.int k) => some k | _ => none
def strT (P : Program) (t : TypeId) : Bool := match P.underlying t with | some .string => true | _ => false
def boolT (P : Program) (t : TypeId) : Bool := match P.underlying t with | some .bool => true | _ => false
def fieldT (P : Program) (t : TypeId) (i : Nat) : Option Field := match P.underlying t with | some (.struct fs) => fs[i]? | _ => none
/-- A field's place, its type having a size. -/
def offT (P : Program) (t : TypeId) (i : Nat) : Option Nat := match fieldT P t i with
  | some f => match szT P f.type with | some (_ + 1) => some f.offset | _ => none
  | none => none

section
variable {P : Program}
theorem run_bind {α β : Type} (x : Sem α) (f : α → Sem β) (w : World) : (x >>= f).run P w = match x.run P w with
  | .ok a w' => (f a).run P w'
  | .halt h w' => .halt h w' := by
  show (Sem.bind x f).run P w = _
  induction x generalizing w with
  | pure a => rfl
  | load m a k ih => simp only [Sem.bind, Sem.run]; (repeat' split) <;> simp_all
  | store m a v k ih => cases v <;> simp only [Sem.bind, Sem.run] <;> first | rfl | ((repeat' split) <;> simp_all)
  | new o k ih => simp only [Sem.bind, Sem.run, ih]
  | shape r k ih => simp only [Sem.bind, Sem.run, ih]
  | freeze a n k ih => simp only [Sem.bind, Sem.run, ih]
  | frozen a k ih => simp only [Sem.bind, Sem.run, ih]
  | getObj r k ih => simp only [Sem.bind, Sem.run]; split <;> simp_all
  | setObj r o k ih => simp only [Sem.bind, Sem.run]; split <;> simp_all
  | choose q k ih => simp only [Sem.bind, Sem.run]; split <;> simp_all
  | sys c k ih => simp only [Sem.bind, Sem.run, ih]
  | program k ih => simp only [Sem.bind, Sem.run, ih]
  | mark m k ih => simp only [Sem.bind, Sem.run, ih]
  | halt h => rfl
theorem run_pure {α : Type} (a : α) (w : World) : (pure a : Sem α).run P w = .ok a w := rfl
theorem run_program (w : World) : program.run P w = .ok P w := rfl

theorem run_underlying {t : TypeId} {d : TypeDesc} (h : P.underlying t = some d) (w : World) : (underlying t).run P w = .ok d w := by
  unfold underlying
  rw [run_bind]
  simp only [run_program, h]
  rfl

theorem run_isAgg {t : TypeId} {b : Bool} (h : aggT P t = some b) (w : World) : (isAgg t).run P w = .ok b w := by
  unfold aggT at h
  cases hd : P.underlying t with
  | none => rw [hd] at h; simp at h
  | some d =>
    rw [hd] at h
    simp only [Option.map_some, Option.some.injEq] at h
    unfold isAgg
    rw [run_bind, run_underlying hd]
    cases d <;> simp_all <;> (first | rfl | (subst h; rfl))

theorem run_typeInfo {t : TypeId} {i : TypeInfo} (h : P.info? t = some i) (w : World) : (typeInfo t).run P w = .ok i w := by
  unfold typeInfo
  rw [run_bind]
  simp only [run_program, h]
  rfl

theorem run_sizeOf {t : TypeId} {n : Nat} (h : szT P t = some n) (w : World) : (sizeOf t).run P w = .ok n w := by
  unfold szT at h
  cases hd : P.info? t with
  | none => rw [hd] at h; simp at h
  | some i =>
    rw [hd] at h
    simp only [Option.map_some, Option.some.injEq] at h
    unfold sizeOf
    rw [run_bind, run_typeInfo hd]
    subst h; rfl

theorem run_zero {t : TypeId} {v : Value} (h : zeroT P t = some v) (w : World) : (zeroValue t).run P w = .ok v w := by
  unfold zeroT at h
  cases hd : P.info? t with
  | none => rw [hd] at h; simp at h
  | some i =>
    rw [hd] at h
    simp only [Option.bind_some] at h
    unfold zeroValue
    rw [run_bind, run_typeInfo hd]
    simp only [h]; rfl

/-! ### Rows of cells -/
def Mem.row (I : Mem) (b off : Nat) (vs : List Value) : Prop := ∀ (i : Nat) (v : Value), vs[i]? = some v → I.cell? ⟨b, off + i, none⟩ = some v

theorem loadCellsFrom_run {w : World} {a : Addr} (vs : List Value) (i : Nat) (acc : Array Value) (h : ∀ j v, vs[j]? = some v → w.cell? (a.add (i + j)) = some v) :
    (loadCellsFrom a i vs.length acc).run P w = .ok (acc ++ vs.toArray) w := by
  induction vs generalizing i acc with
  | nil => simp [loadCellsFrom]
  | cons v vs ih =>
    simp only [List.length_cons, loadCellsFrom]
    rw [run_bind]
    have h0 : (load (a.add i)).run P w = .ok v w := by
      have := h 0 v rfl
      simp only [Nat.add_zero] at this
      simp [load, Sem.run, this]
    rw [h0]
    simp only
    rw [ih (i + 1) (acc.push v) (fun j x hj => by have := h (j + 1) x hj; rwa [show i + 1 + j = i + (j + 1) by omega])]
    simp

theorem loadCells_run {w : World} {a : Addr} (vs : List Value) (h : ∀ j v, vs[j]? = some v → w.cell? (a.add j) = some v) (n : Nat) (hn : vs.length = n) :
    (loadCells a n).run P w = .ok vs.toArray w := by
  subst hn
  have := loadCellsFrom_run (P := P) (w := w) (a := a) vs 0 #[] (by simpa using h)
  simpa [loadCells] using this

theorem loadVar_scalar {t : TypeId} {a : Addr} {v : Value} {w : World} (ht : aggT P t = some false) (h : w.cell? a = some v) : (loadVar t a).run P w = .ok v w := by
  unfold loadVar
  rw [run_bind, run_isAgg ht]
  simp [load, Sem.run, h]

theorem loadVar_agg {t : TypeId} {a : Addr} {vs : List Value} {w : World} {n : Nat} (ht : aggT P t = some true) (hn : szT P t = some n) (hl : vs.length = n) (h : ∀ j v, vs[j]? = some v → w.cell? (a.add j) = some v) :
    (loadVar t a).run P w = .ok (.agg vs.toArray) w := by
  unfold loadVar
  rw [run_bind, run_isAgg ht]
  simp only [if_true]
  rw [run_bind, run_sizeOf hn]
  simp only
  rw [run_bind, loadCells_run vs h n hl]
  rfl

/-! ### Stores -/
def one1 : Value → Bool
  | .agg _ | .tuple _ => false
  | _ => true

theorem storeCells_run (w : World) (vs : List Value) (b off i : Nat) (c : Array Value) (E : TypeId) (hb : w.heap[b]? = some (.cells c E (0, 0))) (hone : ∀ v ∈ vs, one1 v = true) (hlen : off + i + vs.length ≤ c.size) :
    (storeCells ⟨b, off, none⟩ vs i).run P w = .ok () { w with heap := w.heap.setIfInBounds b (.cells (vs.zipIdx.foldl (fun cs p => cs.setIfInBounds (off + i + p.2) p.1) c) E (0, 0)) } := by
  induction vs generalizing w i c with
  | nil =>
    simp only [storeCells, List.zipIdx_nil, List.foldl_nil]
    show Result.ok () w = _
    have hlt : b < w.heap.size := (Array.getElem?_eq_some_iff.1 hb).1
    have : w.heap.setIfInBounds b (.cells c E (0, 0)) = w.heap := by
      apply Array.ext_getElem?
      intro j
      rw [Array.getElem?_setIfInBounds]
      split
      · rename_i e; subst e; exact hb.symm
      · rfl
    rw [this]
  | cons v vs ih =>
    simp only [List.length_cons] at hlen
    have hlt : b < w.heap.size := (Array.getElem?_eq_some_iff.1 hb).1
    have hadd : (⟨b, off, none⟩ : Addr).add i = ⟨b, off + i, none⟩ := by
      unfold Addr.add; split
      · rename_i e; subst e; rfl
      · rfl
    simp only [storeCells]
    rw [run_bind, hadd]
    have hcell : w.cell? ⟨b, off + i, none⟩ = some c[off + i] := by
      simp [World.cell?, hb, show off + i < c.size by omega]
    have hfz : w.frozen? ⟨b, off + i, none⟩ = false := by
      simp [World.frozen?, hb]
    have hset : w.setCell ⟨b, off + i, none⟩ v = { w with heap := w.heap.setIfInBounds b (.cells (c.setIfInBounds (off + i) v) E (0, 0)) } := by
      unfold World.setCell
      congr 1
      apply Array.ext_getElem?
      intro j
      rw [Array.getElem?_modify, Array.getElem?_setIfInBounds]
      split
      · rename_i e; subst e; rw [hb]; simp
      · rfl
    have h1 : (store ⟨b, off + i, none⟩ v).run P w = .ok () { w with heap := w.heap.setIfInBounds b (.cells (c.setIfInBounds (off + i) v) E (0, 0)) } := by
      have hv := hone v (by simp)
      rw [← hset]
      cases v <;> simp_all [store, Sem.run, one1]
    rw [h1]
    simp only
    have hb' : ({ w with heap := w.heap.setIfInBounds b (.cells (c.setIfInBounds (off + i) v) E (0, 0)) } : World).heap[b]? = some (.cells (c.setIfInBounds (off + i) v) E (0, 0)) := by
      show (w.heap.setIfInBounds b _)[b]? = _
      rw [Array.getElem?_setIfInBounds, if_pos rfl, if_pos hlt]
    rw [ih _ (i + 1) _ hb' (fun x hx => hone x (by simp [hx])) (by simp; omega)]
    congr 1
    have : ({ w with heap := w.heap.setIfInBounds b (.cells (c.setIfInBounds (off + i) v) E (0, 0)) } : World).heap.setIfInBounds b = (fun o => (w.heap.setIfInBounds b o)) := by
      funext o
      apply Array.ext_getElem?
      intro j
      simp only [Array.getElem?_setIfInBounds]
      split
      · simp [hlt]
      · rfl
    simp only [this]
    congr 3
    rw [List.zipIdx_cons, List.foldl_cons]
    simp only [Nat.add_zero, Nat.zero_add]
    have : ∀ (vs : List Value) (k : Nat) (c : Array Value), List.foldl (fun cs (p : Value × Nat) => cs.setIfInBounds (off + (i + 1) + p.2) p.1) c (vs.zipIdx k) = List.foldl (fun cs (p : Value × Nat) => cs.setIfInBounds (off + i + p.2) p.1) c (vs.zipIdx (k + 1)) := by
      intro vs
      induction vs with
      | nil => intro k c; rfl
      | cons x vs ihv =>
        intro k c
        simp only [List.zipIdx_cons, List.foldl_cons]
        rw [show off + (i + 1) + k = off + i + (k + 1) by omega]
        exact ihv (k + 1) _
    exact this vs 0 _

/-- What a row holds behind a store of some cells. -/
def putCells (c : Array Value) (off : Nat) (vs : List Value) : Array Value := vs.zipIdx.foldl (fun cs p => cs.setIfInBounds (off + p.2) p.1) c

theorem storeVar_run {t : TypeId} {w : World} {v : Value} {b off : Nat} {c : Array Value} {E : TypeId} (hb : w.heap[b]? = some (.cells c E (0, 0))) (hn : szT P t = some v.cells.size)
    (hone : ∀ x ∈ v.cells.toList, one1 x = true) (hlen : off + v.cells.size ≤ c.size) :
    (storeVar t ⟨b, off, none⟩ v).run P w = .ok () { w with heap := w.heap.setIfInBounds b (.cells (putCells c off v.cells.toList) E (0, 0)) } := by
  unfold storeVar
  rw [run_bind, run_sizeOf hn]
  simp only [ne_eq, not_true_eq_false, if_false]
  have := storeCells_run (P := P) w v.cells.toList b off 0 c E hb hone (by simpa using hlen)
  simpa [putCells] using this
end
end Go.Proofs.YtddkkmdbolgnlaaDoor.Fw

namespace Go.Proofs.YtddkkmdbolgnlaaDoor.Fw

def okD (n : Nat) : Option Nat → Bool
  | some d => Nat.ble (d + 1) n
  | none => true

theorem Fr.putO {a : Act} {n : Nat} {ds : List Deferred} {l : List (Nat × Value)} (h : Fr a n ds l) {d : Option Nat} (hd : okD n d = true) (v : Value) : Fr (a.put d v) n ds (putL l d v) := by
  cases d with
  | none => exact h
  | some d => exact h.put hd v

section
variable {mo : Md} {P : Program} {ops : Array Oper} {Q : Exit → Act → World → Prop} {rest : List Oper} {n : Nat} {ds : List Deferred} {l : List (Nat × Value)} {Γ : Env} {I : Mem} {L : List Chunk}
variable {d : Nat} {t : TypeId} {pos : String} {af : Array Edge}

theorem WL.nil (h : WE Q .normal n ds l Γ I L) : WL mo P ops Q [] n ds l Γ I L :=
  match mo with
  | .seq => fun a w hf hs => wpList_nil (h a w hf hs)
  | .pure => fun a hf => fun w hs => h a w hf hs
  | .any => fun a hf => wpQuiet_nil fun w hs => h a w hf hs

/-- An operation that comes to a value, whatever it does to memory. -/
theorem WL.opx {op : Op} {T : Value → Mem → List Chunk → Prop} (hd : Nat.ble (d + 1) n = true)
    (hrun : ∀ a w, Fr a n ds l → St Γ I L w → ∃ v w' I' L', (execOp a.eval ⟨some d, op, t, pos, af, none⟩).run P w = .ok (.value v) w' ∧ St Γ I' L' w' ∧ T v I' L')
    (h : ∀ v I' L', T v I' L' → WL .seq P ops Q rest n ds ((d, v) :: l) Γ I' L') : WL .seq P ops Q (⟨some d, op, t, pos, af, none⟩ :: rest) n ds l Γ I L := fun a w hf hs => by
  refine wpList_plain rfl fun K hK => ?_
  obtain ⟨v, w', I', L', hr, hs', hT⟩ := hrun a w hf hs
  unfold Oper.wp
  rw [hr]
  exact hK _ _ (h v I' L' hT _ _ (hf.put hd v) hs')

/-- .. that reads at most. -/
theorem WL.val {op : Op} {v : Value} (hd : Nat.ble (d + 1) n = true)
    (hrun : ∀ a w, Fr a n ds l → St Γ I L w → (execOp a.eval ⟨some d, op, t, pos, af, none⟩).run P w = .ok (.value v) w)
    (h : WL mo P ops Q rest n ds ((d, v) :: l) Γ I L) : WL mo P ops Q (⟨some d, op, t, pos, af, none⟩ :: rest) n ds l Γ I L :=
  match mo, h with
  | .seq, h => fun a w hf hs => by
    refine wpList_plain rfl fun K hK => ?_
    unfold Oper.wp
    rw [hrun a w hf hs]
    exact hK _ _ (h _ _ (hf.put hd v) hs)
  | .any, h => fun a hf => by
    refine wpQuiet_step fun K hK => ?_
    rw [if_pos (by simp [Region.wanted])]
    refine ⟨v, fun w hs => ?_, hK _ (h _ (hf.put hd v))⟩
    unfold Oper.quietAt
    rw [hrun a w hf hs]
    exact ⟨rfl, rfl⟩
  | .pure, h => fun a hf => by
    unfold wpPure
    rw [if_pos (by simp [Region.wanted])]
    exact ⟨v, fun w hs => hrun a w hf hs, h _ (hf.put hd v)⟩

/-- .. that comes to nothing (a store). -/
theorem WL.unit {op : Op} {L' : List Chunk}
    (hrun : ∀ a w, Fr a n ds l → St Γ I L w → ∃ w', (execOp a.eval ⟨none, op, t, pos, af, none⟩).run P w = .ok .skip w' ∧ St Γ I L' w')
    (h : WL .seq P ops Q rest n ds l Γ I L') : WL .seq P ops Q (⟨none, op, t, pos, af, none⟩ :: rest) n ds l Γ I L := fun a w hf hs => by
  refine wpList_plain rfl fun K hK => ?_
  obtain ⟨w', hr, hs'⟩ := hrun a w hf hs
  unfold Oper.wp
  rw [hr]
  exact hK _ _ (h _ _ hf hs')

/-! ### Guards -/
theorem wanted_of {a : Act} {o : Oper} {j : Nat} {want b : Bool} {d' : Nat} (hf : Fr a n ds l) (hg : o.guard = some (j, want)) (hj : (ops[j]?).bind (·.dst) = some d') (hl : look l d' = some (.bool b)) :
    Region.wanted o (yielded ops a.tmps) = (b == want) := by
  have := hf.get _ _ hl
  have hy : yielded ops a.tmps j = some b := by
    unfold yielded
    rw [hj, Option.bind_some, this]
  unfold Region.wanted
  rw [hg]
  simp only
  rw [hy]
  cases b <;> cases want <;> rfl

theorem WL.guard_yes {op : Op} {j : Nat} {want : Bool} {d' : Nat} {d : Option Nat} (hj : (ops[j]?).bind (·.dst) = some d') (hl : look l d' = some (.bool want))
    (h : WL mo P ops Q (⟨d, op, t, pos, af, none⟩ :: rest) n ds l Γ I L) : WL mo P ops Q (⟨d, op, t, pos, af, some (j, want)⟩ :: rest) n ds l Γ I L :=
  match mo, h with
  | .seq, h => fun a w hf hs => by
    have := h a w hf hs
    unfold wpList at this ⊢
    rw [if_pos (by simp [Region.wanted])] at this
    rw [if_pos (by rw [wanted_of hf rfl hj hl]; cases want <;> rfl)]
    exact this
  | .any, h => fun a hf => by
    have := h a hf
    unfold wpQuiet at this ⊢
    rw [if_pos (by simp [Region.wanted])] at this
    rw [if_pos (by rw [wanted_of hf rfl hj hl]; cases want <;> rfl)]
    exact this
  | .pure, h => fun a hf => by
    have := h a hf
    unfold wpPure at this ⊢
    rw [if_pos (by simp [Region.wanted])] at this
    rw [if_pos (by rw [wanted_of hf rfl hj hl]; cases want <;> rfl)]
    exact this

theorem WL.guard_no {op : Op} {j : Nat} {want b : Bool} {d' : Nat} (hj : (ops[j]?).bind (·.dst) = some d') (hl : look l d' = some (.bool b)) (hb : (b == want) = false) (hd : Nat.ble (d + 1) n = true)
    (h : WL mo P ops Q rest n ds ((d, undef) :: l) Γ I L) : WL mo P ops Q (⟨some d, op, t, pos, af, some (j, want)⟩ :: rest) n ds l Γ I L :=
  match mo, h with
  | .seq, h => fun a w hf hs => by
    unfold wpList
    rw [if_neg (by rw [wanted_of hf rfl hj hl, hb]; exact Bool.false_ne_true)]
    exact h _ _ (hf.put hd _) hs
  | .any, h => fun a hf => by
    unfold wpQuiet
    rw [if_neg (by rw [wanted_of hf rfl hj hl, hb]; exact Bool.false_ne_true)]
    exact h _ (hf.put hd _)
  | .pure, h => fun a hf => by
    unfold wpPure
    rw [if_neg (by rw [wanted_of hf rfl hj hl, hb]; exact Bool.false_ne_true)]
    exact h _ (hf.put hd _)

/-- A guard that was not carried out itself. -/
theorem WL.guard_undef {op : Op} {j : Nat} {want : Bool} {d' : Nat} (hj : (ops[j]?).bind (·.dst) = some d') (hl : look l d' = some undef) (hd : Nat.ble (d + 1) n = true)
    (h : WL mo P ops Q rest n ds ((d, undef) :: l) Γ I L) : WL mo P ops Q (⟨some d, op, t, pos, af, some (j, want)⟩ :: rest) n ds l Γ I L :=
  have hw : ∀ a, Fr a n ds l → Region.wanted ⟨some d, op, t, pos, af, some (j, want)⟩ (yielded ops a.tmps) = false := fun a hf => by
    have := hf.get _ _ hl
    have hy : yielded ops a.tmps j = none := by
      unfold yielded
      rw [hj, Option.bind_some, this]
      rfl
    unfold Region.wanted
    simp only
    rw [hy]
    rfl
  match mo, h with
  | .seq, h => fun a w hf hs => by
    unfold wpList
    rw [if_neg (by rw [hw a hf]; exact Bool.false_ne_true)]
    exact h _ _ (hf.put hd _) hs
  | .any, h => fun a hf => by
    unfold wpQuiet
    rw [if_neg (by rw [hw a hf]; exact Bool.false_ne_true)]
    exact h _ (hf.put hd _)
  | .pure, h => fun a hf => by
    unfold wpPure
    rw [if_neg (by rw [hw a hf]; exact Bool.false_ne_true)]
    exact h _ (hf.put hd _)

theorem WL.weakL {l' : List (Nat × Value)} (hs : ∀ t v, look l' t = some v → look l t = some v) (h : WL mo P ops Q rest n ds l' Γ I L) : WL mo P ops Q rest n ds l Γ I L :=
  match mo, h with
  | .seq, h => fun a w hf hst => h a w (hf.weak hs) hst
  | .any, h => fun a hf => h a (hf.weak hs)
  | .pure, h => fun a hf => h a (hf.weak hs)
theorem WL.split {b : Bool} (d' : Nat) (hl : look l d' = some (.bool b)) (ht : b = true → WL mo P ops Q rest n ds ((d', .bool true) :: l) Γ I L) (hf : b = false → WL mo P ops Q rest n ds ((d', .bool false) :: l) Γ I L) :
    WL mo P ops Q rest n ds l Γ I L := by
  cases b with
  | true => exact WL.weakL (fun t v e => by rw [look_cons] at e; split at e <;> simp_all) (ht rfl)
  | false => exact WL.weakL (fun t v e => by rw [look_cons] at e; split at e <;> simp_all) (hf rfl)

/-! ### Moves -/
theorem WL.move {x : Operand} {v : Value} (hx : ev l x = some v) (hd : Nat.ble (d + 1) n = true) (h : WL mo P ops Q rest n ds ((d, v) :: l) Γ I L) :
    WL mo P ops Q (⟨some d, .move x, t, pos, af, none⟩ :: rest) n ds l Γ I L :=
  WL.val hd (fun a w hf _ => by simp only [execOp, hf.ev hx]; rfl) h
theorem WL.assign {x : Operand} {v : Value} (hx : ev l x = some v) (hd : Nat.ble (d + 1) n = true) (h : WL mo P ops Q rest n ds ((d, v) :: l) Γ I L) :
    WL mo P ops Q (⟨some d, .assign x, t, pos, af, none⟩ :: rest) n ds l Γ I L :=
  WL.val hd (fun a w hf _ => by simp only [execOp, hf.ev hx]; rfl) h
theorem WL.pick_true {c x y : Operand} {v : Value} (hc : ev l c = some (.bool true)) (hx : ev l x = some v) (hd : Nat.ble (d + 1) n = true) (h : WL mo P ops Q rest n ds ((d, v) :: l) Γ I L) :
    WL mo P ops Q (⟨some d, .pick c x y, t, pos, af, none⟩ :: rest) n ds l Γ I L :=
  WL.val hd (fun a w hf _ => by simp only [execOp, hf.ev hc, hf.ev hx]; rfl) h
theorem WL.pick_false {c x y : Operand} {v : Value} (hc : ev l c = some (.bool false)) (hy : ev l y = some v) (hd : Nat.ble (d + 1) n = true) (h : WL mo P ops Q rest n ds ((d, v) :: l) Γ I L) :
    WL mo P ops Q (⟨some d, .pick c x y, t, pos, af, none⟩ :: rest) n ds l Γ I L :=
  WL.val hd (fun a w hf _ => by simp only [execOp, hf.ev hc, hf.ev hy]; rfl) h

/-! ### Numbers, truth values, strings -/
theorem run_v {s : Sem Value} {v : Value} {w w' : World} (h : s.run P w = .ok v w') : (do pure (.value (← s)) : Sem Next).run P w = .ok (.value v) w' := by
  rw [run_bind, h]; rfl

def arith (op : BinOp) (k : IntKind) (x y : Int) : Option Value :=
  match op with
  | .add => some (.int k (k.wrap (x + y)))
  | .sub => some (.int k (k.wrap (x - y)))
  | .mul => some (.int k (k.wrap (x * y)))
  | .eql => some (.bool (x == y))
  | .neq => some (.bool (x != y))
  | .lss => some (.bool (x < y))
  | .leq => some (.bool (x ≤ y))
  | .gtr => some (.bool (x > y))
  | .geq => some (.bool (x ≥ y))
  | _ => none

theorem WL.arith {op : BinOp} {T T' : TypeId} {x y : Operand} {k : IntKind} {m p : Int} {v : Value} (hx : ev l x = some (.int k m)) (hy : ev l y = some (.int k p)) (hv : Fw.arith op k m p = some v) (hd : Nat.ble (d + 1) n = true)
    (h : WL mo P ops Q rest n ds ((d, v) :: l) Γ I L) : WL mo P ops Q (⟨some d, .binOp op T x y T', t, pos, af, none⟩ :: rest) n ds l Γ I L :=
  WL.val hd (fun a w hf _ => by
    simp only [execOp, hf.ev hx, hf.ev hy]
    refine run_v ?_
    cases op <;> simp only [Fw.arith, reduceCtorEq, Option.some.injEq] at hv <;> subst hv <;> simp [eqGuard, binOp, Op.intArith, Op.intCmp]) h

/-- A sum, a difference that fits. -/
theorem WL.add {T T' : TypeId} {x y : Operand} {m p : Int} (hx : ev l x = some (.int .i64 m)) (hy : ev l y = some (.int .i64 p)) (hr : -9223372036854775808 ≤ m + p ∧ m + p ≤ 9223372036854775807) (hd : Nat.ble (d + 1) n = true)
    (h : WL mo P ops Q rest n ds ((d, (.int .i64 (m + p))) :: l) Γ I L) : WL mo P ops Q (⟨some d, .binOp .add T x y T', t, pos, af, none⟩ :: rest) n ds l Γ I L :=
  WL.arith hx hy (by
    simp only [Fw.arith]
    rw [IntWalk.i64_in _ (by omega)]) hd h
theorem WL.sub {T T' : TypeId} {x y : Operand} {m p : Int} (hx : ev l x = some (.int .i64 m)) (hy : ev l y = some (.int .i64 p)) (hr : -9223372036854775808 ≤ m - p ∧ m - p ≤ 9223372036854775807) (hd : Nat.ble (d + 1) n = true)
    (h : WL mo P ops Q rest n ds ((d, (.int .i64 (m - p))) :: l) Γ I L) : WL mo P ops Q (⟨some d, .binOp .sub T x y T', t, pos, af, none⟩ :: rest) n ds l Γ I L :=
  WL.arith hx hy (by
    simp only [Fw.arith]
    rw [IntWalk.i64_in _ (by omega)]) hd h
theorem WL.not {T : TypeId} {x : Operand} {b : Bool} (hx : ev l x = some (.bool b)) (hd : Nat.ble (d + 1) n = true)
    (h : WL mo P ops Q rest n ds ((d, (.bool (!b))) :: l) Γ I L) : WL mo P ops Q (⟨some d, .unOp .not T x, t, pos, af, none⟩ :: rest) n ds l Γ I L :=
  WL.val hd (fun a w hf _ => by simp only [execOp, hf.ev hx]; exact run_v rfl) h
end
end Go.Proofs.YtddkkmdbolgnlaaDoor.Fw

namespace Go.Proofs.YtddkkmdbolgnlaaDoor.Fw

def nth {α : Type} : List α → Nat → Option α
  | [], _ => none
  | x :: _, 0 => some x
  | _ :: r, n + 1 => nth r n
theorem nth_eq {α : Type} (l : List α) (n : Nat) : nth l n = l[n]? := by
  induction l generalizing n with
  | nil => simp [nth]
  | cons x r ih => cases n with
    | zero => simp [nth]
    | succ n => simp [nth, ih]

/-- The first m of a list, written out. -/
def takeO {α : Type} : Nat → List α → Option (List α)
  | 0, _ => some []
  | _ + 1, [] => none
  | m + 1, x :: r => match takeO m r with
    | some vs => some (x :: vs)
    | none => none
theorem takeO_some {α : Type} {m : Nat} {l vs : List α} (h : takeO m l = some vs) : vs.length = m ∧ ∀ (j : Nat) (v : α), vs[j]? = some v → l[j]? = some v := by
  induction m generalizing l vs with
  | zero => simp [takeO] at h; subst h; simp
  | succ m ih =>
    cases l with
    | nil => simp [takeO] at h
    | cons x r =>
      simp only [takeO] at h
      split at h
      · rename_i us hu
        injection h with h; subst h
        obtain ⟨h1, h2⟩ := ih hu
        refine ⟨by simp [h1], fun j v hj => ?_⟩
        cases j with
        | zero => simpa using hj
        | succ j => simpa using h2 j v (by simpa using hj)
      · simp at h
def dropN {α : Type} : Nat → List α → List α
  | 0, l => l
  | _ + 1, [] => []
  | n + 1, _ :: r => dropN n r
theorem dropN_get {α : Type} (n : Nat) (l : List α) (j : Nat) : (dropN n l)[j]? = l[n + j]? := by
  induction n generalizing l with
  | zero => simp [dropN]
  | succ n ih => cases l with
    | nil => simp [dropN]
    | cons x r => rw [dropN, ih, show n + 1 + j = (n + j) + 1 by omega]; simp

/-- A list with one place written, written out. -/
def setO {α : Type} : List α → Nat → α → Option (List α)
  | [], _, _ => none
  | _ :: r, 0, v => some (v :: r)
  | x :: r, n + 1, v => match setO r n v with
    | some l => some (x :: l)
    | none => none
theorem setO_some {α : Type} {l l' : List α} {n : Nat} {v : α} (h : setO l n v = some l') : n < l.length ∧ l' = l.set n v := by
  induction l generalizing n l' with
  | nil => simp [setO] at h
  | cons x r ih => cases n with
    | zero => simp [setO] at h; subst h; simp
    | succ n =>
      simp only [setO] at h
      split at h
      · rename_i us hu
        injection h with h; subst h
        obtain ⟨h1, h2⟩ := ih hu
        subst h2
        simp; exact h1
      · simp at h
/-- Several places, one behind the other. -/
def setsO : List Value → Nat → List Value → Option (List Value)
  | c, _, [] => some c
  | c, off, v :: vs => match setO c off v with
    | some c' => setsO c' (off + 1) vs
    | none => none
theorem setsO_some {c c' vs : List Value} {off : Nat} (h : setsO c off vs = some c') : off + vs.length ≤ c.length ∨ vs = [] := by
  induction vs generalizing c off with
  | nil => exact .inr rfl
  | cons v vs ih =>
    simp only [setsO] at h
    split at h
    · rename_i c1 h1
      obtain ⟨hl, rfl⟩ := setO_some h1
      rcases ih h with h2 | rfl
      · left; simp at h2 ⊢; omega
      · left; simp; omega
    · simp at h
theorem setsO_put {c c' vs : List Value} {off : Nat} (h : setsO c off vs = some c') : (putCells c.toArray off vs).toList = c' := by
  unfold putCells
  have : ∀ (vs : List Value) (k : Nat) (c c' : List Value), setsO c (off + k) vs = some c' → (List.foldl (fun cs (p : Value × Nat) => cs.setIfInBounds (off + p.2) p.1) c.toArray (vs.zipIdx k)).toList = c' := by
    intro vs
    induction vs with
    | nil => intro k c c' h; simp [setsO] at h; subst h; rfl
    | cons v vs ih =>
      intro k c c' h
      simp only [setsO] at h
      split at h
      · rename_i c1 h1
        obtain ⟨hl, rfl⟩ := setO_some h1
        simp only [List.zipIdx_cons, List.foldl_cons, List.setIfInBounds_toArray]
        exact ih (k + 1) _ _ (by simpa [Nat.add_assoc] using h)
      · simp at h
  exact this vs 0 c c' (by simpa using h)

/-- A list, written out. -/
def allO {α : Type} : List α → Option (List α)
  | [] => some []
  | x :: r => match allO r with
    | some vs => some (x :: vs)
    | none => none
theorem allO_some {α : Type} {l vs : List α} (h : allO l = some vs) : l = vs := by
  induction l generalizing vs with
  | nil => simp [allO] at h; exact h.symm
  | cons x r ih =>
    simp only [allO] at h
    split at h
    · rename_i us hu
      injection h with h; subst h
      rw [ih hu]
    · simp at h
def cellsO : Value → Option (List Value)
  | .agg cs => allO cs.toList
  | v => some [v]

/-- Operands read. -/
def evs (l : List (Nat × Value)) : List Operand → Option (List Value)
  | [] => some []
  | x :: r => match ev l x with
    | some v => match evs l r with
      | some vs => some (v :: vs)
      | none => none
    | none => none
theorem Fr.evs {a : Act} {n : Nat} {ds : List Deferred} {l : List (Nat × Value)} (h : Fr a n ds l) {xs : List Operand} {vs : List Value} (hx : evs l xs = some vs) : xs.toArray.map a.eval = vs.toArray := by
  induction xs generalizing vs with
  | nil => simp [Fw.evs] at hx; subst hx; simp
  | cons x r ih =>
    simp only [Fw.evs] at hx
    split at hx
    · rename_i v hv
      split at hx
      · rename_i us hu
        injection hx with hx; subst hx
        have := ih hu
        simp only [List.map_toArray, List.map_cons] at this ⊢
        rw [h.ev hv]
        simp only [Array.mk.injEq] at this
        rw [this]
      · simp at hx
    · simp at hx

def Spec (P : Program) (f : FuncId) (args : List Value) (I : Mem) (C : Chunk) (R : Value → Mem → Chunk → Prop) : Prop :=
  ∀ w0, I.le (memOf w0) → Own w0 (C.map Prod.fst) I C w0 → Calls P f args.toArray w0 (fun e w => ∃ v I' C', e = .returned v ∧ Ext w0 I (C.map Prod.fst) I' w ∧ Own w0 (C.map Prod.fst) I' C' w ∧ R v I' C')

theorem Spec.mono {P : Program} {f : FuncId} {args : List Value} {I : Mem} {C : Chunk} {R R' : Value → Mem → Chunk → Prop} (h : Spec P f args I C R) (hr : ∀ v I' C', I.le I' → R v I' C' → R' v I' C') : Spec P f args I C R' :=
  fun w0 hi ho => (h w0 hi ho).mono fun _ _ ⟨v, I', C', he, hx, ho', r⟩ => ⟨v, I', C', he, hx, ho', hr _ _ _ hx.le0 r⟩

section
variable {mo : Md} {P : Program} {ops : Array Oper} {Q : Exit → Act → World → Prop} {rest : List Oper} {n : Nat} {ds : List Deferred} {l : List (Nat × Value)} {Γ : Env} {I : Mem} {L : List Chunk}
variable {d : Nat} {t : TypeId} {pos : String} {af : Array Edge}

/-! ### New blocks -/
theorem run_newRow (c : Array Value) (E : TypeId) (w : World) : (newRow E c).run P w = .ok ⟨w.heap.size, 0, none⟩ { w with heap := w.heap.push (.cells c E) } := by
  unfold newRow
  rw [run_bind]
  rfl

theorem WL.newBlock {op : Op} {c : List Value} {E : TypeId} {f : Addr → Value} (hd : Nat.ble (d + 1) n = true)
    (hrun : ∀ a w, Fr a n ds l → St Γ I L w → (execOp a.eval ⟨some d, op, t, pos, af, none⟩).run P w = .ok (.value (f ⟨w.heap.size, 0, none⟩)) { w with heap := w.heap.push (.cells c.toArray E) })
    (h : ∀ b, WL .seq P ops Q rest n ds ((d, (f ⟨b, 0, none⟩)) :: l) Γ I ([(b, .cells c.toArray E (0, 0))] :: L)) : WL .seq P ops Q (⟨some d, op, t, pos, af, none⟩ :: rest) n ds l Γ I L :=
  WL.opx (T := fun v I' L' => I' = I ∧ ∃ b, v = f ⟨b, 0, none⟩ ∧ L' = [(b, .cells c.toArray E (0, 0))] :: L) hd
    (fun a w hf hs => ⟨_, _, _, _, hrun a w hf hs, hs.alloc _, rfl, _, rfl, rfl⟩)
    (fun v I' L' ⟨hI, b, hv, hL⟩ => by subst hI; subst hv; subst hL; exact h b)

theorem WL.box_raw {E : TypeId} {x : Operand} {v : Value} {c : List Value} (hx : ev l x = some v) (hc : v.cells.toList = c) (hd : Nat.ble (d + 1) n = true)
    (h : ∀ b, WL .seq P ops Q rest n ds ((d, (.pointer (some ⟨b, 0, none⟩))) :: l) Γ I ([(b, .cells c.toArray E (0, 0))] :: L)) : WL .seq P ops Q (⟨some d, .box E x, t, pos, af, none⟩ :: rest) n ds l Γ I L :=
  WL.newBlock (f := fun a => .pointer (some a)) hd (fun a w hf _ => by
    simp only [execOp, hf.ev hx]
    refine run_v ?_
    unfold Instr.box newVar
    rw [run_bind, run_newRow]
    subst hc; rfl) h

theorem cellsO_some {v : Value} {c : List Value} (h : cellsO v = some c) : v.cells.toList = c := by
  cases v <;> simp [cellsO, Value.cells] at h ⊢ <;> first | exact h | (rw [allO_some h])

theorem WL.box {E : TypeId} {x : Operand} {v : Value} {c : List Value} (hx : ev l x = some v) (hc : cellsO v = some c) (hd : Nat.ble (d + 1) n = true)
    (h : ∀ b, WL .seq P ops Q rest n ds ((d, (.pointer (some ⟨b, 0, none⟩))) :: l) Γ I ([(b, .cells c.toArray E (0, 0))] :: L)) : WL .seq P ops Q (⟨some d, .box E x, t, pos, af, none⟩ :: rest) n ds l Γ I L :=
  WL.box_raw hx (cellsO_some hc) hd h

theorem WL.alloc {E : TypeId} {z : Value} {c : List Value} (hz : zeroT P E = some z) (hc : cellsO z = some c) (hd : Nat.ble (d + 1) n = true)
    (h : ∀ b, WL .seq P ops Q rest n ds ((d, (.pointer (some ⟨b, 0, none⟩))) :: l) Γ I ([(b, .cells c.toArray E (0, 0))] :: L)) : WL .seq P ops Q (⟨some d, .alloc E, t, pos, af, none⟩ :: rest) n ds l Γ I L :=
  WL.newBlock (f := fun a => .pointer (some a)) hd (fun a w hf _ => by
    simp only [execOp]
    refine run_v ?_
    unfold Instr.alloc newVar
    have hc := cellsO_some hc
    rw [run_bind, run_zero hz]
    simp only
    rw [run_bind, run_newRow]
    subst hc; rfl) h

/-! ### Loads -/
theorem run_loadAt {T : TypeId} {a : Addr} {v : Value} {w : World} (h : (loadVar T a).run P w = .ok v w) : (Instr.loadAt T (.pointer (some a))).run P w = .ok v w := by
  unfold Instr.loadAt
  rw [run_bind]
  exact h

theorem WL.load_own (k : Nat) {T : TypeId} {x : Operand} {b off : Nat} {c : Array Value} {E : TypeId} {fz : Nat × Nat} {v : Value} (hx : ev l x = some (.pointer (some ⟨b, off, none⟩))) (hk : nth L k = some [(b, .cells c E fz)]) (ht : aggT P T = some false)
    (hv : nth c.toList off = some v) (hd : Nat.ble (d + 1) n = true) (h : WL mo P ops Q rest n ds ((d, v) :: l) Γ I L) : WL mo P ops Q (⟨some d, .load T x, t, pos, af, none⟩ :: rest) n ds l Γ I L :=
  WL.val hd (fun a w hf hs => by
    simp only [execOp, hf.ev hx]
    exact run_v (run_loadAt (loadVar_scalar ht (hs.cell_own (by rw [← nth_eq]; exact hk) (by rw [nth_eq] at hv; simpa using hv))))) h

theorem add_at (b off j : Nat) : (⟨b, off, none⟩ : Addr).add j = ⟨b, off + j, none⟩ := by
  unfold Addr.add; split
  · rename_i e; subst e; rfl
  · rfl

theorem WL.load_own_agg (k : Nat) {T : TypeId} {x : Operand} {b off m : Nat} {c : Array Value} {E : TypeId} {fz : Nat × Nat} {vs : List Value} (hx : ev l x = some (.pointer (some ⟨b, off, none⟩))) (hk : nth L k = some [(b, .cells c E fz)]) (ht : aggT P T = some true) (hm : szT P T = some m)
    (hv : takeO m (dropN off c.toList) = some vs) (hd : Nat.ble (d + 1) n = true) (h : WL mo P ops Q rest n ds ((d, (.agg vs.toArray)) :: l) Γ I L) : WL mo P ops Q (⟨some d, .load T x, t, pos, af, none⟩ :: rest) n ds l Γ I L :=
  WL.val hd (fun a w hf hs => by
    simp only [execOp, hf.ev hx]
    obtain ⟨h1, h2⟩ := takeO_some hv
    refine run_v (run_loadAt (loadVar_agg ht hm h1 fun j u hj => ?_))
    rw [add_at]
    have := h2 j u hj
    rw [dropN_get] at this
    exact hs.cell_own (by rw [← nth_eq]; exact hk) (by simpa using this)) h

theorem WL.load_imm {T : TypeId} {x : Operand} {b off : Nat} {v : Value} (hx : ev l x = some (.pointer (some ⟨b, off, none⟩))) (ht : aggT P T = some false) (hd : Nat.ble (d + 1) n = true) (hc : I.cell? ⟨b, off, none⟩ = some v)
    (h : WL mo P ops Q rest n ds ((d, v) :: l) Γ I L) : WL mo P ops Q (⟨some d, .load T x, t, pos, af, none⟩ :: rest) n ds l Γ I L :=
  WL.val hd (fun a w hf hs => by
    simp only [execOp, hf.ev hx]
    exact run_v (run_loadAt (loadVar_scalar ht (hs.cell_imm hc)))) h

theorem WL.load_imm_agg {T : TypeId} {x : Operand} {b off : Nat} {m : Nat} {vs : List Value} (hx : ev l x = some (.pointer (some ⟨b, off, none⟩))) (ht : aggT P T = some true) (hm : szT P T = some m) (hd : Nat.ble (d + 1) n = true) (hc : I.row b off vs) (hl : vs.length = m)
    (h : WL mo P ops Q rest n ds ((d, (.agg vs.toArray)) :: l) Γ I L) : WL mo P ops Q (⟨some d, .load T x, t, pos, af, none⟩ :: rest) n ds l Γ I L :=
  WL.val hd (fun a w hf hs => by
    simp only [execOp, hf.ev hx]
    exact run_v (run_loadAt (loadVar_agg ht hm hl fun j u hj => by rw [add_at]; exact hs.cell_imm (hc j u hj)))) h

/-! ### Stores into blocks of the call's own -/
theorem WL.store (k : Nat) {T : TypeId} {x y : Operand} {b off m : Nat} {c : Array Value} {E : TypeId} {v : Value} {vs c' : List Value} {L' : List Chunk} (hx : ev l x = some (.pointer (some ⟨b, off, none⟩))) (hy : ev l y = some v) (hk : nth L k = some [(b, .cells c E (0, 0))])
    (hvs : cellsO v = some vs) (hm : szT P T = some m) (hl : Nat.beq vs.length m = true) (hne : vs.isEmpty = false) (hone : vs.all one1 = true) (hc : setsO c.toList off vs = some c')
    (hL : setO L k [(b, .cells c'.toArray E (0, 0))] = some L') (h : WL .seq P ops Q rest n ds l Γ I L') : WL .seq P ops Q (⟨none, .store T x y, t, pos, af, none⟩ :: rest) n ds l Γ I L :=
  WL.unit (fun a w hf hs => by
    have hk' : L[k]? = some [(b, .cells c E (0, 0))] := by rw [← nth_eq]; exact hk
    have hb := hs.at_ hk'
    have hlen := Nat.eq_of_beq_eq_true hl
    have hvs := cellsO_some hvs
    subst hvs
    have hL' := (setO_some hL).2
    subst hL'
    refine ⟨_, ?_, hs.setAt hk'⟩
    simp only [execOp, hf.ev hx, hf.ev hy]
    have hsz : v.cells.size = m := by simpa using hlen
    have hr : (Instr.storeAt T (.pointer (some ⟨b, off, none⟩)) v).run P w = .ok () { w with heap := w.heap.setIfInBounds b (.cells c'.toArray E (0, 0)) } := by
      unfold Instr.storeAt
      rw [run_bind]
      show (storeVar T ⟨b, off, none⟩ v).run P w = _
      have h0 : v.cells.toList ≠ [] := fun e => by rw [e] at hne; simp at hne
      have hp := setsO_put hc
      have hle : off + v.cells.toList.length ≤ c.toList.length := (setsO_some hc).resolve_right h0
      have : putCells c off v.cells.toList = c'.toArray := by
        apply Array.toList_inj.1; rw [← hp]
      rw [storeVar_run hb (by rw [hm, hsz]) (fun x hx => List.all_eq_true.1 hone x hx) (by simpa using hle), this]
    rw [run_bind, hr]
    rfl) h
end
end Go.Proofs.YtddkkmdbolgnlaaDoor.Fw

namespace Go.Proofs.YtddkkmdbolgnlaaDoor.Fw
section
variable {mo : Md} {P : Program} {ops : Array Oper} {Q : Exit → Act → World → Prop} {rest : List Oper} {n : Nat} {ds : List Deferred} {l : List (Nat × Value)} {Γ : Env} {I : Mem} {L : List Chunk}
variable {d : Nat} {t : TypeId} {pos : String} {af : Array Edge}

theorem WL.fieldAddr {T : TypeId} {x : Operand} {i b off o : Nat} (hx : ev l x = some (.pointer (some ⟨b, off, none⟩))) (ho : offT P T i = some o) (hd : Nat.ble (d + 1) n = true)
    (h : WL mo P ops Q rest n ds ((d, (.pointer (some ⟨b, off + o, none⟩))) :: l) Γ I L) : WL mo P ops Q (⟨some d, .fieldAddr T x i, t, pos, af, none⟩ :: rest) n ds l Γ I L :=
  WL.val hd (fun a w hf _ => by
    simp only [execOp, hf.ev hx]
    refine run_v ?_
    unfold offT at ho
    split at ho
    · rename_i f hfT
      split at ho
      · rename_i m hm
        injection ho with ho
        unfold fieldT at hfT
        split at hfT
        · rename_i fs hu
          unfold Instr.fieldAt
          rw [run_bind, run_underlying hu]
          simp only [hfT]
          show Sem.run P (fieldPlace _ f >>= fun a => pure (Value.pointer (some a))) w = _
          rw [run_bind]
          have : (fieldPlace ⟨b, off, none⟩ f).run P w = .ok ⟨b, off + o, none⟩ w := by
            unfold fieldPlace
            rw [run_bind, run_sizeOf hm]
            simp only [Nat.succ_ne_zero, if_false]
            rw [← ho, ← add_at]; rfl
          rw [this]; rfl
        · simp at hfT
      · simp at ho
    · simp at ho) h

theorem run_asIntOf (k : IntKind) (j : Int) (w : World) : (asIntOf (.int k j)).run P w = .ok (k, j) w := rfl

/-- A place of a slice. -/
theorem WL.indexAddr {T E : TypeId} {x y : Operand} {b off : Nat} {len cap sz : Nat} {k : IntKind} {j : Int} (hx : ev l x = some (.slice (some ⟨b, off, none⟩) len cap)) (hy : ev l y = some (.int k j)) (hT : sliceT P T = some E) (hs : szT P E = some sz) (hd : Nat.ble (d + 1) n = true)
    (hj : 0 ≤ j ∧ j < (len : Int))
    (h : WL mo P ops Q rest n ds ((d, (.pointer (some ⟨b, off + j.toNat * sz, none⟩))) :: l) Γ I L) : WL mo P ops Q (⟨some d, .indexAddr T x y, t, pos, af, none⟩ :: rest) n ds l Γ I L :=
  WL.val hd (fun a w hf _ => by
    simp only [execOp, hf.ev hx, hf.ev hy]
    refine run_v ?_
    unfold sliceT at hT
    split at hT
    · rename_i e hu
      injection hT with hT; subst hT
      unfold Instr.indexAt
      simp only [run_bind, run_asIntOf, run_underlying hu, run_pure, run_sizeOf hs, if_pos hj, add_at]
    · simp at hT) h

theorem WL.len_slice {T : TypeId} {ty : TypeId} {x : Operand} {A : Option Addr} {m cap : Nat} {E : TypeId} (hx : ev l x = some (.slice A m cap)) (hT : sliceT P T = some E) (hd : Nat.ble (d + 1) n = true)
    (h : WL mo P ops Q rest n ds ((d, (.int .i64 m)) :: l) Γ I L) : WL mo P ops Q (⟨some d, .call { callee := .builtin .len, args := [x].toArray, argTypes := [T].toArray }, ty, pos, af, none⟩ :: rest) n ds l Γ I L :=
  WL.val hd (fun a w hf _ => by
    unfold sliceT at hT
    split at hT
    · rename_i e hu
      simp [execOp, resolve, hf.ev hx, invoke, builtin, Builtin.len_, run_underlying hu, goInt]
    · simp at hT) h

theorem WL.len_string {T : TypeId} {ty : TypeId} {x : Operand} {s : ByteArray} (hx : ev l x = some (.string s)) (hT : strT P T = true) (hd : Nat.ble (d + 1) n = true)
    (h : WL mo P ops Q rest n ds ((d, (.int .i64 s.size)) :: l) Γ I L) : WL mo P ops Q (⟨some d, .call { callee := .builtin .len, args := [x].toArray, argTypes := [T].toArray }, ty, pos, af, none⟩ :: rest) n ds l Γ I L :=
  WL.val hd (fun a w hf _ => by
    unfold strT at hT
    split at hT
    · rename_i hu
      simp [execOp, resolve, hf.ev hx, invoke, builtin, Builtin.len_, run_underlying hu, goInt]
    · simp at hT) h

theorem WL.extract {x : Operand} {i : Nat} {vs : List Value} {v : Value} (hx : ev l x = some (.tuple vs.toArray)) (hi : nth vs i = some v) (hd : Nat.ble (d + 1) n = true)
    (h : WL mo P ops Q rest n ds ((d, v) :: l) Γ I L) : WL mo P ops Q (⟨some d, .extract x i, t, pos, af, none⟩ :: rest) n ds l Γ I L :=
  WL.val hd (fun a w hf _ => by
    rw [nth_eq] at hi
    simp only [execOp, hf.ev hx]
    refine run_v ?_
    simp [Instr.extract, hi]) h

theorem WL.nilCheck {x : Operand} {a' : Addr} (hx : ev l x = some (.pointer (some a'))) (hd : Nat.ble (d + 1) n = true)
    (h : WL mo P ops Q rest n ds ((d, (.pointer (some a'))) :: l) Γ I L) : WL mo P ops Q (⟨some d, .nilCheck x, t, pos, af, none⟩ :: rest) n ds l Γ I L :=
  WL.val hd (fun a w hf _ => by simp only [execOp, hf.ev hx]; rfl) h

theorem WL.convert_int {T T' : TypeId} {x : Operand} {k k' : IntKind} {j : Int} (hx : ev l x = some (.int k j)) (hS : intT P T = some k) (hT : intT P T' = some k') (hd : Nat.ble (d + 1) n = true)
    (h : WL mo P ops Q rest n ds ((d, (.int k' (k'.wrap j))) :: l) Γ I L) : WL mo P ops Q (⟨some d, .convert T T' x, t, pos, af, none⟩ :: rest) n ds l Γ I L :=
  WL.val hd (fun a w hf _ => by
    simp only [execOp, hf.ev hx]
    refine run_v ?_
    unfold intT at hS hT
    split at hS
    · rename_i k1 hu
      split at hT
      · rename_i k2 hu2
        injection hT with hT; subst hT
        unfold convert
        rw [run_bind, run_underlying hu]
        simp only
        rw [run_bind, run_underlying hu2]
        rfl
      · simp at hT
    · simp at hS) h

/-! ### Calls -/
def okFn (P : Program) (f : FuncId) (fn : Func) : Prop := P.funcs[f]? = some fn ∧ (fn.name == "runtime.NumGoroutine") = false ∧ fn.body.isSome = true

theorem run_callFunc {f : FuncId} {fn : Func} (h : okFn P f fn) (args : Array Value) (w : World) : (callFunc f args).run P w = .ok (.enter f args) w := by
  obtain ⟨h1, h2, h3⟩ := h
  have h4 : fn.body.isNone = false := by
    cases hb : fn.body with
    | none => rw [hb] at h3; simp at h3
    | some c => rfl
  unfold callFunc
  rw [run_bind]
  simp only [run_program, h1, h2, h4, Bool.false_eq_true, if_false]
  rfl

/-- A call of a function value: its own arguments, then what it captured. -/
theorem run_callValue {c : Call} {a : Act} {f : FuncId} {fn : Func} {first cap : List Value} {args : List Value} {x : Operand} {T : TypeId} (hok : okFn P f fn) (hc : c.callee = .value x) (hx : a.eval x = .func (.func f) first.toArray cap.toArray)
    (ha : c.args.map a.eval = args.toArray) (w : World) : (do let d ← resolve a.eval c T; invoke d.target d.args : Sem Next).run P w = .ok (.enter f (first ++ args ++ cap).toArray) w := by
  rw [run_bind]
  have : (resolve a.eval c T).run P w = .ok { target := .fn (.func f) cap.toArray, args := first.toArray ++ args.toArray } w := by
    unfold resolve
    rw [hc, ha]
    simp only [hx, Deferred.ofValue]
    rfl
  rw [this]
  simp only [invoke]
  rw [run_callFunc hok]
  simp

theorem WL.call_any {c : Call} {f : FuncId} {fn : Func} {first cap args : List Value} {x : Operand} {xs : List Operand} {C : Chunk} {R : Value → Mem → Chunk → Prop} (hok : okFn P f fn)
    (hc : c.callee = .value x) (hx : ev l x = some (.func (.func f) first.toArray cap.toArray)) (hxs : c.args = xs.toArray) (ha : evs l xs = some args) (hd : Nat.ble (d + 1) n = true)
    (hspec : Spec P f (first ++ args ++ cap) I C R)
    (h : ∀ v I' C', I.le I' → R v I' C' → WL .seq P ops Q rest n ds ((d, v) :: l) Γ I' (C' :: L)) : WL .seq P ops Q (⟨some d, .call c, t, pos, af, none⟩ :: rest) n ds l Γ I (C :: L) := fun a w hf hs => by
  refine wpList_plain rfl fun K hK => ?_
  unfold Oper.wp
  simp only [execOp]
  rw [run_callValue (args := args) hok hc (hf.ev hx) (by rw [hxs]; exact hf.evs ha)]
  show Calls P f _ w _
  have ho : Own w (C.map Prod.fst) I C w := by
    have := hs.own
    simp only [List.flatten_cons] at this
    refine ⟨fun p hp => this.has p (List.mem_append_left _ hp), fun p hp => this.out p (List.mem_append_left _ hp), ?_, fun p hp => .inr (List.mem_map.2 ⟨p, hp, rfl⟩)⟩
    have h1 := this.apart
    rw [List.map_append] at h1
    exact (List.nodup_append.1 h1).1
  refine (hspec w hs.ext.imm ho).mono fun e w' ⟨v, I', C', he, hx', ho', r⟩ => ?_
  subst he
  exact hK _ _ (h v I' C' hx'.le0 r _ _ (hf.put hd v) (hs.call hx' ho'))

/-- A call of a function by its name, nothing of the caller's own being written. -/
theorem WL.call0 {f : FuncId} {fn : Func} {args : List Value} {xs : List Operand} {Ts : Array TypeId} {R : Value → Mem → Chunk → Prop} (hok : okFn P f fn)
    (ha : evs l xs = some args) (hd : Nat.ble (d + 1) n = true) (hspec : Spec P f args I [] R)
    (h : ∀ v I' C', I.le I' → R v I' C' → WL .seq P ops Q rest n ds ((d, v) :: l) Γ I' (C' :: L)) : WL .seq P ops Q (⟨some d, .call { callee := .value (.func f), args := xs.toArray, argTypes := Ts }, t, pos, af, none⟩ :: rest) n ds l Γ I L :=
  WL.perm (L' := [] :: L) (fun _ hs => hs.nilTop)
    (WL.call_any (first := []) (cap := []) (x := .func f) hok rfl rfl rfl ha hd (by simpa using hspec) h)

/-- .. one chunk of the caller's being handed on to be written. -/
theorem WL.call1 {f : FuncId} {fn : Func} {args : List Value} {xs : List Operand} {Ts : Array TypeId} {C : Chunk} {R : Value → Mem → Chunk → Prop} (hok : okFn P f fn)
    (ha : evs l xs = some args) (hd : Nat.ble (d + 1) n = true) (hspec : Spec P f args I C R)
    (h : ∀ v I' C', I.le I' → R v I' C' → WL .seq P ops Q rest n ds ((d, v) :: l) Γ I' (C' :: L)) : WL .seq P ops Q (⟨some d, .call { callee := .value (.func f), args := xs.toArray, argTypes := Ts }, t, pos, af, none⟩ :: rest) n ds l Γ I (C :: L) :=
  WL.call_any (first := []) (cap := []) (x := .func f) hok rfl rfl rfl ha hd (by simpa using hspec) h

/-! ### Returns -/
def RetOf (Γ : Env) (R : Value → Mem → Chunk → Prop) (e : Ending) (w : World) : Prop :=
  ∃ v I' C', e = .returned v ∧ Ext Γ.w0 Γ.I0 Γ.M I' w ∧ Own Γ.w0 Γ.M I' C' w ∧ R v I' C'

theorem Spec.intro {f : FuncId} {fn : Func} {c : Code} {args : List Value} {C : Chunk} {R : Value → Mem → Chunk → Prop} (hok : P.funcs[f]? = some fn) (hb : fn.body = some c) (hn : Nat.ble args.length fn.ntmps = true)
    (h : ∀ Γ : Env, WC P c (bodyPost P fn (RetOf Γ R)) fn.ntmps [] (argL 0 args) Γ I [C]) : Spec P f args I C R := fun w0 hi ho => by
  refine calls_of_wp hok hb ?_
  refine h ⟨w0, I, C.map Prod.fst⟩ _ _ (Fr.start args fn.ntmps hn) ⟨Ext.start w0 I _ hi, ?_⟩
  simpa using ho

theorem Spec.intro0 {f : FuncId} {fn : Func} {c : Code} {args : List Value} {R : Value → Mem → Chunk → Prop} (hok : P.funcs[f]? = some fn) (hb : fn.body = some c) (hn : Nat.ble args.length fn.ntmps = true)
    (h : ∀ Γ : Env, WC P c (bodyPost P fn (RetOf Γ R)) fn.ntmps [] (argL 0 args) Γ I []) : Spec P f args I [] R :=
  Spec.intro hok hb hn fun Γ => WC.perm (fun _ hs => hs.perm (by simp)) (h Γ)

theorem Own.nil (w0 : World) (M : List Nat) (I : Mem) (w : World) : Own w0 M I [] w :=
  ⟨fun _ h => by simp at h, fun _ h => by simp at h, by simp, fun _ h => by simp at h⟩

theorem WE.ret0 {fn : Func} {R : Value → Mem → Chunk → Prop} {x : Nat} {v : Value} (hres : fn.results = [ResultVar.tmp x].toArray) (hx : look l x = some v) (h : R v I []) :
    WE (bodyPost P fn (RetOf Γ R)) .ret n [] l Γ I L := fun a w hf hs => by
  have hv := hf.get _ _ hx
  refine ⟨hf.defers, a.tmps.getD x undef, results_tmp hres a.tmps P w, v, I, [], ?_, hs.ext, Own.nil _ _ _ _, h⟩
  simp [Array.getD_eq_getD_getElem?, hv]

theorem WE.ret0_top {fn : Func} {R : Value → Mem → Chunk → Prop} {x : Nat} {v : Value} {C : Chunk} (hres : fn.results = [ResultVar.tmp x].toArray) (hx : look l x = some v) (h : R v I C) :
    WE (bodyPost P fn (RetOf Γ R)) .ret n [] l Γ I (C :: L) := fun a w hf hs => by
  have hv := hf.get _ _ hx
  have ho : Own Γ.w0 Γ.M I C w := by
    have := hs.own
    simp only [List.flatten_cons] at this
    refine ⟨fun p hp => this.has p (List.mem_append_left _ hp), fun p hp => this.out p (List.mem_append_left _ hp), ?_, fun p hp => this.from_ p (List.mem_append_left _ hp)⟩
    have h1 := this.apart
    rw [List.map_append] at h1
    exact (List.nodup_append.1 h1).1
  refine ⟨hf.defers, a.tmps.getD x undef, results_tmp hres a.tmps P w, v, I, C, ?_, hs.ext, ho, h⟩
  simp [Array.getD_eq_getD_getElem?, hv]
end
end Go.Proofs.YtddkkmdbolgnlaaDoor.Fw

