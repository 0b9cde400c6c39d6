/- A part of the proof: steps of the walk and laws that the claim's theorem rests on; each lemma states its own conditions. -/
import Derived.Test.YtddkkmdbolgnlaaDoorWalkB
import Derived.Deep.AppendSrc
import Derived.Laws.AppendOwn
set_option linter.unusedVariables false
set_option linter.unusedSimpArgs false
namespace Go.Proofs.YtddkkmdbolgnlaaDoor.Fw

/-- A list with some places written. -/
def setsL {α : Type} (c : List α) (off : Nat) (vs : List α) : List α := c.take off ++ vs ++ c.drop (off + vs.length)
theorem setsL_len {α : Type} {c : List α} {off : Nat} {vs : List α} (h : off + vs.length ≤ c.length) : (setsL c off vs).length = c.length := by simp [setsL]; omega
theorem set_seg {α : Type} (c : List α) (m : Nat) (v : α) (rest : List α) (h : m < c.length) : (c.set m v).take (m + 1) ++ rest ++ (c.set m v).drop (m + 1 + rest.length) = c.take m ++ (v :: rest) ++ c.drop (m + (v :: rest).length) := by
  have h1 : (c.set m v).take (m + 1) = c.take m ++ [v] := by
    rw [List.take_add_one, List.take_set_of_le (Nat.le_refl _), List.getElem?_set_self (by simpa using h)]; rfl
  have h2 : (c.set m v).drop (m + 1 + rest.length) = c.drop (m + 1 + rest.length) := by rw [List.drop_set_of_lt (by omega)]
  rw [h1, h2]
  simp [Nat.add_assoc, Nat.add_comm 1 rest.length]
theorem putCells_eq {c vs : List Value} {off : Nat} (h : off + vs.length ≤ c.length) : putCells c.toArray off vs = (setsL c off vs).toArray := by
  apply Array.toList_inj.1
  unfold putCells setsL
  have : ∀ (vs : List Value) (k : Nat) (c : List Value), off + k + vs.length ≤ c.length → (List.foldl (fun cs (p : Value × Nat) => cs.setIfInBounds (off + p.2) p.1) c.toArray (vs.zipIdx k)).toList = c.take (off + k) ++ vs ++ c.drop (off + k + vs.length) := by
    intro vs
    induction vs with
    | nil => intro k c _; simp
    | cons v vs ih =>
      intro k c h
      simp only [List.length_cons] at h
      simp only [List.zipIdx_cons, List.foldl_cons, List.setIfInBounds_toArray]
      rw [ih (k + 1) (c.set (off + k) v) (by simp; omega), show off + (k + 1) = off + k + 1 by omega]
      exact set_seg c (off + k) v vs (by omega)
  simpa using this vs 0 c (by simpa using h)

/-- A slice of one's own: its cells, its address, its room, the block. -/
def SlO (sz : Nat) (cs : List Value) (A : Option Addr) (cap : Nat) (C : Chunk) : Prop :=
  (A = none ∧ cs = [] ∧ cap = 0 ∧ C = []) ∨ ∃ b pad E, A = some ⟨b, 0, none⟩ ∧ C = [(b, .cells (cs ++ pad).toArray E (0, 0))] ∧ cs.length + pad.length = cap * sz ∧ cap ≤ 9223372036854775807
theorem SlO.nil (sz : Nat) : SlO sz [] none 0 [] := .inl ⟨rfl, rfl, rfl, rfl⟩

theorem St.setRow {Γ : Env} {I : Mem} {L L' : List Chunk} {w : World} {k b : Nat} {c : List Value} {c' : List Value} {E : TypeId} {fz : Nat × Nat} (h : St Γ I L w) (hk : nth L k = some [(b, .cells c.toArray E fz)]) (hL : setO L k [(b, .cells c'.toArray E fz)] = some L') :
    St Γ I L' { w with heap := w.heap.setIfInBounds b (.cells c'.toArray E fz) } := by
  rw [(setO_some hL).2]
  exact h.setAt (by rw [← nth_eq]; exact hk)

theorem one1_eq (v : Value) : one1 v = v.oneCell' := rfl

section
variable {mo : Md} {P : Program} {ops : Array Oper} {Q : Exit → Act → World → Prop} {rest : List Oper} {n : Nat} {ds : List Deferred} {l : List (Nat × Value)} {Γ : Env} {I : Mem} {L : List Chunk}
variable {d : Nat} {t : TypeId} {pos : String} {af : Array Edge}

/-- What stands in memory, wherever: cells from an address on. -/
def AtW (Γ : Env) (I : Mem) (L : List Chunk) (A : Addr) (cs : List Value) : Prop := ∀ w, St Γ I L w → ∀ (j : Nat) (v : Value), cs[j]? = some v → w.cell? (A.add j) = some v
theorem AtW.imm {b off : Nat} {cs : List Value} (h : I.row b off cs) : AtW Γ I L ⟨b, off, none⟩ cs := fun w hs j v hj => by
  rw [add_at]; exact hs.cell_imm (h j v hj)
theorem AtW.own {k b off : Nat} {c : Array Value} {E : TypeId} {fz : Nat × Nat} {cs : List Value} (hk : nth L k = some [(b, .cells c E fz)]) (h : ∀ j v, cs[j]? = some v → c.toList[off + j]? = some v) : AtW Γ I L ⟨b, off, none⟩ cs := fun w hs j v hj => by
  rw [add_at]
  exact hs.cell_own (by rw [← nth_eq]; exact hk) (by simpa using h j v hj)

/-- The second argument of an append. -/
inductive SrcW (P : Program) (Γ : Env) (I : Mem) (L : List Chunk) (sz : Nat) (T : TypeId) : Value → Nat → List Value → Prop
  | slice {E : TypeId} {A : Addr} {m cap : Nat} {cs : List Value} (hT : sliceT P T = some E) (h : AtW Γ I L A cs) (hl : cs.length = m * sz) (h1 : cs.all one1 = true) : SrcW P Γ I L sz T (.slice (some A) m cap) m cs
  | nil {E : TypeId} {cap : Nat} (hT : sliceT P T = some E) : SrcW P Γ I L sz T (.slice none 0 cap) 0 []
  | str {s : ByteArray} (hT : strT P T = true) (hsz : sz = 1) : SrcW P Γ I L sz T (.string s) s.size (byteCells s)
theorem SrcW.src {sz m : Nat} {T : TypeId} {v : Value} {cs : List Value} (h : SrcW P Γ I L sz T v m cs) {w : World} (hs : St Γ I L w) : Src P sz T v m cs w := by
  cases h with
  | slice hT h hl h1 =>
    unfold sliceT at hT
    split at hT
    · rename_i e hu; exact Src.ofSlice w hu _ _ _ _ hl (h w hs) (fun u hu => List.all_eq_true.1 h1 u hu)
    · simp at hT
  | nil hT =>
    unfold sliceT at hT
    split at hT
    · rename_i e hu; exact Src.ofNil w hu _
    · simp at hT
  | str hT hsz =>
    subst hsz
    unfold strT at hT
    split at hT
    · rename_i hu; exact Src.ofString w hu _
    · simp at hT

theorem info_of {E : TypeId} {sz by' : Nat} {z : Value} (hs : szT P E = some sz) (hb : bytesT P E = some by') (hz : zeroT P E = some z) : ∃ i, P.info? E = some i ∧ i.size = sz ∧ i.bytes = by' ∧ i.zero = some z := by
  unfold szT at hs; unfold bytesT at hb; unfold zeroT at hz
  cases hi : P.info? E with
  | none => rw [hi] at hs; simp at hs
  | some i =>
    rw [hi] at hs hb hz
    exact ⟨i, rfl, by simpa using hs, by simpa using hb, by simpa using hz⟩
theorem zeroCells_len (zs : Array Value) (k : Nat) : (Builtin.zeroCells zs k).size = k * zs.size := by simp [Builtin.zeroCells]

/-- 'append(s, xs...)': 's' of one's own (k: its chunk). -/
theorem WL.append_own (k : Nat) {T T2 E ty : TypeId} {x y : Operand} {A : Option Addr} {len cap sz by' m : Nat} {z vy : Value} {zs cs news : List Value} {C : Chunk} {F : Chunk → List Chunk}
    (hx : ev l x = some (.slice A len cap)) (hy : ev l y = some vy) (hT : sliceT P T = some E) (hs : szT P E = some sz) (hb : bytesT P E = some by') (hz : zeroT P E = some z) (hzs : cellsO z = some zs) (hzl : Nat.beq zs.length sz = true)
    (hk : nth L k = some C) (hF : ∀ C', setO L k C' = some (F C')) (hC : SlO sz cs A cap C) (hlen : cs.length = len * sz) (hsrc : SrcW P Γ I L sz T2 vy m news) (hfit : (len + m) * by' ≤ 140737488355328) (h63 : len + m ≤ 9223372036854775807) (hd : Nat.ble (d + 1) n = true)
    (h : ∀ A' cap' C', SlO sz (cs ++ news) A' cap' C' → WL .seq P ops Q rest n ds ((d, .slice A' (len + m) cap') :: l) Γ I (F C')) :
    WL .seq P ops Q (⟨some d, .call { callee := .builtin .append, args := [x, y].toArray, argTypes := [T, T2].toArray }, ty, pos, af, none⟩ :: rest) n ds l Γ I L :=
  WL.opx (T := fun v I' L' => I' = I ∧ ∃ A' cap' C', SlO sz (cs ++ news) A' cap' C' ∧ v = .slice A' (len + m) cap' ∧ L' = F C') hd
    (fun a w hf hst => by
      obtain ⟨i, hi, hisz, hiby, hiz⟩ := info_of hs hb hz
      have hsr := hsrc.src hst
      unfold sliceT at hT
      split at hT
      case h_2 => simp at hT
      rename_i e hu
      injection hT with hT; subst hT
      have hexec : ∀ v w', (Builtin.append_ #[T, T2] ty #[.slice A len cap, vy]).run P w = .ok v w' → (execOp a.eval ⟨some d, .call { callee := .builtin .append, args := [x, y].toArray, argTypes := [T, T2].toArray }, ty, pos, af, none⟩).run P w = .ok (.value v) w' := fun v w' hr => by
        simp [execOp, resolve, hf.ev hx, hf.ev hy, invoke, builtin, hr]
      have hzc := cellsO_some hzs
      have hzl' := Nat.eq_of_beq_eq_true hzl
      by_cases hroom : len + m ≤ cap
      · rcases hC with ⟨rfl, rfl, rfl, rfl⟩ | ⟨b, pad, E', rfl, rfl, hpad, hcmx⟩
        · have hm : len = 0 ∧ m = 0 := by omega
          obtain ⟨rfl, rfl⟩ := hm
          have hn : news = [] := List.length_eq_zero_iff.1 (by have := hsr.newsLen; omega)
          subst hn
          have hr : (Builtin.append_ #[T, T2] ty #[.slice none 0 0, vy]).run P w = .ok (.slice none 0 0) w := by
            rcases hsr.kind with ⟨e', hk'⟩ | hk' <;> simp [Builtin.append_, run_underlying hu, run_underlying hk', sizeOf, typeInfo, hi, hsr.len, hisz, hsr.cells]
          refine ⟨_, w, I, L, hexec _ _ hr, hst, rfl, none, 0, [], SlO.nil sz, rfl, ?_⟩
          have := hF []
          rw [(setO_some this).2]
          rw [nth_eq] at hk
          exact (List.ext_getElem? fun j => by
            rw [List.getElem?_set]
            split
            · rename_i e; subst e; split
              · exact hk.trans rfl |>.trans rfl
              · rename_i hlt; rw [hk] ; exact absurd (List.getElem?_eq_some_iff.1 hk).1 hlt
            · rfl)
        · have hnl := hsr.newsLen
          have hle : len * sz + news.length ≤ (cs ++ pad).length := by
            rw [List.length_append, hpad, hnl, ← Nat.add_mul]; exact Nat.mul_le_mul_right _ hroom
          have hbw := hst.at_ (by rw [← nth_eq]; exact hk)
          have hst2 := storeCells_run (P := P) w news b (0 + len * sz) 0 (cs ++ pad).toArray E' hbw (fun x hx => hsr.one x hx) (by simpa using hle)
          have hrow := hst.setRow (c' := setsL (cs ++ pad) (len * sz) news) hk (hF _)
          have hput := putCells_eq (c := cs ++ pad) (off := len * sz) (vs := news) hle
          have hr : (Builtin.append_ #[T, T2] ty #[.slice (some ⟨b, 0, none⟩) len cap, vy]).run P w = .ok (.slice (some ⟨b, 0, none⟩) (len + m) cap) { w with heap := w.heap.setIfInBounds b (.cells (setsL (cs ++ pad) (len * sz) news).toArray E' (0, 0)) } := by
            rw [← hput]
            have hst3 : (storeCells ((⟨b, 0, none⟩ : Addr).add (len * sz)) news).run P w = .ok () { w with heap := w.heap.setIfInBounds b (.cells (putCells (cs ++ pad).toArray (len * sz) news) E' (0, 0)) } := by
              rw [add_at]; unfold putCells; simpa using hst2
            rcases hsr.kind with ⟨e', hk'⟩ | hk' <;> simp [Builtin.append_, run_underlying hu, run_underlying hk', sizeOf, typeInfo, hi, hsr.len, hisz, hsr.cells, hroom, hst3]
          refine ⟨_, _, I, _, hexec _ _ hr, hrow, rfl, some ⟨b, 0, none⟩, cap, _, .inr ⟨b, pad.drop news.length, E', rfl, ?_, ?_, hcmx⟩, rfl, rfl⟩
          · congr 4
            unfold setsL
            rw [← hlen, List.take_left, Nat.add_comm, List.drop_append, Nat.add_sub_cancel, List.drop_of_length_le (by omega), List.nil_append]
          · simp only [List.length_append, List.length_drop] at hle ⊢; omega
      · have hg : cap < len + m := by omega
        have hold : (Builtin.firstCells i.size len (.slice A len cap)).run P w.drew = .ok cs.toArray w.drew := by
          rcases hC with ⟨rfl, rfl, rfl, rfl⟩ | ⟨b, pad, E', rfl, rfl, hpad, _⟩
          · rw [run_firstCells_none]
          · refine run_firstCells_some w.drew _ _ _ _ _ cs (by rw [hisz]; exact hlen) fun j v hj => ?_
            rw [add_at]
            have := hst.cell_own (off := j) (v := v) (by rw [← nth_eq]; exact hk) (by
              have := (List.getElem?_eq_some_iff.1 hj).1
              simpa [List.getElem?_append_left this] using hj)
            simpa using this
        have hr := run_append_grow_src (P := P) w T T2 ty e i z hu hi hiz A len cap cs hold vy m news (by rw [hisz]; exact hsr) hg (by omega) (by rw [hiby]; exact growslice_fits hg hfit)
        have hcap := grownCap_ge w (len + m) cap e
        have hcmx := grownCap_le_maxLen w (len + m) cap e (by unfold maxLen; omega)
        unfold maxLen at hcmx
        generalize hgc : grownCap w (len + m) cap e = gc at hr hcap hcmx
        have hs1 : St Γ I L w.drew := hst.drew (w.drawn + 1)
        have hs2 := hs1.alloc (.cells ((cs ++ news).toArray ++ Builtin.zeroCells z.cells (gc - (len + m))) e (0, 0))
        refine ⟨_, _, I, F [(w.heap.size, .cells ((cs ++ news) ++ (Builtin.zeroCells z.cells (gc - (len + m))).toList).toArray e (0, 0))], hexec _ _ hr, ?_, rfl, _, gc, _, .inr ⟨w.heap.size, (Builtin.zeroCells z.cells (gc - (len + m))).toList, e, rfl, rfl, ?_, hcmx⟩, rfl, rfl⟩
        · have hL := (setO_some (hF [(w.heap.size, .cells ((cs ++ news) ++ (Builtin.zeroCells z.cells (gc - (len + m))).toList).toArray e (0, 0))])).2
          rw [hL]
          have e1 : ((cs ++ news).toArray ++ Builtin.zeroCells z.cells (gc - (len + m))) = ((cs ++ news) ++ (Builtin.zeroCells z.cells (gc - (len + m))).toList).toArray := by
            apply Array.toList_inj.1; simp
          rw [e1] at hs2 ⊢
          have hk2 : L[k]? = some C := by rw [← nth_eq]; exact hk
          have h3 : St Γ I ([(w.heap.size, Obj.cells ((cs ++ news) ++ (Builtin.zeroCells z.cells (gc - (len + m))).toList).toArray e (0, 0))] :: C :: L.eraseIdx k) _ := hs2.perm (by
            have := perm_top hk2
            simp only [List.flatten_cons] at this ⊢
            exact List.Perm.append_left _ this)
          have h4 : St Γ I ([(w.heap.size, Obj.cells ((cs ++ news) ++ (Builtin.zeroCells z.cells (gc - (len + m))).toList).toArray e (0, 0))] :: L.eraseIdx k) _ := (h3.perm (L' := C :: [(w.heap.size, Obj.cells ((cs ++ news) ++ (Builtin.zeroCells z.cells (gc - (len + m))).toList).toArray e (0, 0))] :: L.eraseIdx k) (by
            simp only [List.flatten_cons]
            rw [← List.append_assoc, ← List.append_assoc]
            exact List.Perm.append_right _ List.perm_append_comm)).drop
          exact h4.perm (perm_set hk2)
        · have hzz : z.cells.size = sz := by
            rw [← hzl', ← Array.length_toList, hzc]
          have hz2 : (Builtin.zeroCells z.cells (gc - (len + m))).toList.length = (gc - (len + m)) * sz := by rw [Array.length_toList, zeroCells_len, hzz]
          rw [hz2, List.length_append, hlen, hsr.newsLen, ← Nat.add_mul, ← Nat.add_mul, Nat.add_sub_cancel' hcap])
    (fun v I' L' ⟨hI, A', cap', C', hC', hv, hL⟩ => by subst hI; subst hv; subst hL; exact h A' cap' C' hC')
end
end Go.Proofs.YtddkkmdbolgnlaaDoor.Fw
namespace Go.Proofs.YtddkkmdbolgnlaaDoor.Fw
theorem WE.freezeB {Q : Exit → Act → World → Prop} {n : Nat} {ds : List Deferred} {l : List (Nat × Value)} {Γ : Env} {I : Mem} {L : List Chunk} {e : Exit} {b : Nat} {o : Obj} (h : ∀ I', I.le I' → I' b = some o → WE Q e n ds l Γ I' L) : WE Q e n ds l Γ I ([(b, o)] :: L) := fun a w hf hs => by
  refine h (I.add [(b, o)]) (Mem.le_add fun p hp => ?_) (Mem.add_mem (by simp) (by simp)) a w hf hs.freeze
  simp only [List.mem_singleton] at hp; subst hp
  exact hs.own.out (b, o) (by simp)
end Go.Proofs.YtddkkmdbolgnlaaDoor.Fw

namespace Go.Proofs.YtddkkmdbolgnlaaDoor.Fw
section
variable {mo : Md} {P : Program} {ops : Array Oper} {Q : Exit → Act → World → Prop} {rest : List Oper} {n : Nat} {ds : List Deferred} {l : List (Nat × Value)} {Γ : Env} {I : Mem} {L : List Chunk}
variable {d : Nat} {t : TypeId} {pos : String} {af : Array Edge}

theorem WL.cap_slice {T : TypeId} {ty : TypeId} {x : Operand} {A : Option Addr} {m cap : Nat} {E : TypeId} (hx : ev l x = some (.slice A m cap)) (hT : sliceT P T = some E) (hd : Nat.ble (d + 1) n = true)
    (h : WL mo P ops Q rest n ds ((d, (.int .i64 cap)) :: l) Γ I L) : WL mo P ops Q (⟨some d, .call { callee := .builtin .cap, args := [x].toArray, argTypes := [T].toArray }, ty, pos, af, none⟩ :: rest) n ds l Γ I L :=
  WL.val hd (fun a w hf _ => by
    unfold sliceT at hT
    split at hT
    · rename_i e hu
      simp [execOp, resolve, hf.ev hx, invoke, builtin, Builtin.cap_, run_underlying hu, goInt]
    · simp at hT) h

theorem WL.min_int {T T2 : TypeId} {ty : TypeId} {x y : Operand} {k : IntKind} {i j : Int} (hx : ev l x = some (.int k i)) (hy : ev l y = some (.int k j)) (hd : Nat.ble (d + 1) n = true)
    (h : WL mo P ops Q rest n ds ((d, (.int k (if j < i then j else i))) :: l) Γ I L) : WL mo P ops Q (⟨some d, .call { callee := .builtin .min, args := [x, y].toArray, argTypes := [T, T2].toArray }, ty, pos, af, none⟩ :: rest) n ds l Γ I L :=
  WL.val hd (fun a w hf _ => by simp [execOp, resolve, hf.ev hx, hf.ev hy, invoke, builtin, Builtin.min_, Builtin.min2]) h
theorem WL.max_int {T T2 : TypeId} {ty : TypeId} {x y : Operand} {k : IntKind} {i j : Int} (hx : ev l x = some (.int k i)) (hy : ev l y = some (.int k j)) (hd : Nat.ble (d + 1) n = true)
    (h : WL mo P ops Q rest n ds ((d, (.int k (if i < j then j else i))) :: l) Γ I L) : WL mo P ops Q (⟨some d, .call { callee := .builtin .max, args := [x, y].toArray, argTypes := [T, T2].toArray }, ty, pos, af, none⟩ :: rest) n ds l Γ I L :=
  WL.val hd (fun a w hf _ => by simp [execOp, resolve, hf.ev hx, hf.ev hy, invoke, builtin, Builtin.max_, Builtin.max2]) h

/-! ### Bits, quotients -/
def bitsV (op : BinOp) (k : IntKind) (x y : Int) : Int :=
  let a := BitVec.ofInt k.bits x
  let b := BitVec.ofInt k.bits y
  match op with
  | .and => k.wrap (a &&& b).toNat
  | .or => k.wrap (a ||| b).toNat
  | .xor => k.wrap (a ^^^ b).toNat
  | _ => k.wrap (a &&& ~~~b).toNat
def isBits : BinOp → Bool
  | .and | .or | .xor | .andNot => true
  | _ => false
theorem WL.bits {op : BinOp} {T T' : TypeId} {x y : Operand} {k : IntKind} {i j : Int} (hop : isBits op = true) (hx : ev l x = some (.int k i)) (hy : ev l y = some (.int k j)) (hd : Nat.ble (d + 1) n = true)
    (h : WL mo P ops Q rest n ds ((d, .int k (bitsV op k i j)) :: l) Γ I L) : WL mo P ops Q (⟨some d, .binOp op T x y T', t, pos, af, none⟩ :: rest) n ds l Γ I L :=
  WL.val hd (fun a w hf _ => by
    simp only [execOp, hf.ev hx, hf.ev hy]
    refine run_v ?_
    cases op <;> simp only [isBits, Bool.false_eq_true] at hop <;> simp [eqGuard, binOp, Op.intBits, bitsV]) h
theorem WL.unxor {T : TypeId} {x : Operand} {k : IntKind} {i : Int} (hx : ev l x = some (.int k i)) (hd : Nat.ble (d + 1) n = true)
    (h : WL mo P ops Q rest n ds ((d, .int k (bitsV .xor k (if k.signed then -1 else k.max) i)) :: l) Γ I L) : WL mo P ops Q (⟨some d, .unOp .xor T x, t, pos, af, none⟩ :: rest) n ds l Γ I L :=
  WL.val hd (fun a w hf _ => by simp only [execOp, hf.ev hx]; exact run_v rfl) h
theorem WL.neg {T : TypeId} {x : Operand} {k : IntKind} {i : Int} (hx : ev l x = some (.int k i)) (hd : Nat.ble (d + 1) n = true)
    (h : WL mo P ops Q rest n ds ((d, .int k (k.wrap (0 - i))) :: l) Γ I L) : WL mo P ops Q (⟨some d, .unOp .neg T x, t, pos, af, none⟩ :: rest) n ds l Γ I L :=
  WL.val hd (fun a w hf _ => by simp only [execOp, hf.ev hx]; exact run_v rfl) h
theorem WL.quo {T T' : TypeId} {x y : Operand} {k : IntKind} {i j : Int} (hx : ev l x = some (.int k i)) (hy : ev l y = some (.int k j)) (hd : Nat.ble (d + 1) n = true) (hj : j ≠ 0)
    (h : WL mo P ops Q rest n ds ((d, .int k (k.wrap (i.tdiv j))) :: l) Γ I L) : WL mo P ops Q (⟨some d, .binOp .quo T x y T', t, pos, af, none⟩ :: rest) n ds l Γ I L :=
  WL.val hd (fun a w hf _ => by
    simp only [execOp, hf.ev hx, hf.ev hy]
    refine run_v ?_
    simp [eqGuard, binOp, Op.intDiv, hj]) h
theorem WL.rem {T T' : TypeId} {x y : Operand} {k : IntKind} {i j : Int} (hx : ev l x = some (.int k i)) (hy : ev l y = some (.int k j)) (hd : Nat.ble (d + 1) n = true) (hj : j ≠ 0)
    (h : WL mo P ops Q rest n ds ((d, .int k (i.tmod j)) :: l) Γ I L) : WL mo P ops Q (⟨some d, .binOp .rem T x y T', t, pos, af, none⟩ :: rest) n ds l Γ I L :=
  WL.val hd (fun a w hf _ => by
    simp only [execOp, hf.ev hx, hf.ev hy]
    refine run_v ?_
    simp [eqGuard, binOp, Op.intDiv, hj]) h

/-! ### Cutting -/
/-- 's[low:high]' of a slice; what is not written: 0, the length. -/
def sliceV (A : Option Addr) (cap sz lo hi : Nat) : Value := .slice (if cap = lo then A else A.map (·.add (lo * sz))) (hi - lo) (cap - lo)
theorem run_bound {x : Value} {k : IntKind} {j : Int} {m : Nat} {code : BoundsCode} (hx : x = .int k j) (hj : 0 ≤ j ∧ j ≤ (m : Int)) (w : World) : (Instr.sliceBound x m code).run P w = .ok j.toNat w := by
  subst hx
  simp only [Instr.sliceBound, run_bind, run_asIntOf, if_pos hj, run_pure]
theorem WL.slice_to {T E : TypeId} {x y : Operand} {A : Option Addr} {len cap sz : Nat} {k : IntKind} {j : Int} (hx : ev l x = some (.slice A len cap)) (hy : ev l y = some (.int k j)) (hT : sliceT P T = some E) (hs : szT P E = some sz) (hd : Nat.ble (d + 1) n = true) (hj : 0 ≤ j ∧ j ≤ (cap : Int))
    (h : WL mo P ops Q rest n ds ((d, sliceV A cap sz 0 j.toNat) :: l) Γ I L) : WL mo P ops Q (⟨some d, .slice T x none (some y) none, t, pos, af, none⟩ :: rest) n ds l Γ I L :=
  WL.val hd (fun a w hf _ => by
    simp only [execOp, hf.ev hx, Option.map_some, Option.map_none, hf.ev hy]
    refine run_v ?_
    unfold sliceT at hT
    split at hT
    · rename_i e hu
      injection hT with hT; subst hT
      unfold Instr.sliceAt
      rw [run_bind, run_underlying hu]
      simp only [Instr.slice, run_bind, run_underlying hu, Instr.sliceBounds, run_pure, run_bound rfl hj, run_sizeOf hs, sliceV]
    · simp at hT) h
theorem WL.slice_lohi {T E : TypeId} {x y z : Operand} {A : Option Addr} {len cap sz : Nat} {k k' : IntKind} {i j : Int} (hx : ev l x = some (.slice A len cap)) (hy : ev l y = some (.int k i)) (hz : ev l z = some (.int k' j)) (hT : sliceT P T = some E) (hs : szT P E = some sz) (hd : Nat.ble (d + 1) n = true) (hj : 0 ≤ i ∧ i ≤ j ∧ j ≤ (cap : Int))
    (h : WL mo P ops Q rest n ds ((d, sliceV A cap sz i.toNat j.toNat) :: l) Γ I L) : WL mo P ops Q (⟨some d, .slice T x (some y) (some z) none, t, pos, af, none⟩ :: rest) n ds l Γ I L :=
  WL.val hd (fun a w hf _ => by
    simp only [execOp, hf.ev hx, Option.map_some, Option.map_none, hf.ev hy, hf.ev hz]
    refine run_v ?_
    unfold sliceT at hT
    split at hT
    · rename_i e hu
      injection hT with hT; subst hT
      unfold Instr.sliceAt
      rw [run_bind, run_underlying hu]
      simp only [Instr.slice, run_bind, run_underlying hu, Instr.sliceBounds, run_pure, run_bound rfl (show 0 ≤ j ∧ j ≤ (cap : Int) by omega), run_bound rfl (show 0 ≤ i ∧ i ≤ ((j.toNat : Nat) : Int) by omega), run_sizeOf hs, sliceV, Option.isSome_none]
    · simp at hT) h
theorem WL.slice_lo {T E : TypeId} {x y : Operand} {A : Option Addr} {len cap sz : Nat} {k : IntKind} {i : Int} (hx : ev l x = some (.slice A len cap)) (hy : ev l y = some (.int k i)) (hT : sliceT P T = some E) (hs : szT P E = some sz) (hd : Nat.ble (d + 1) n = true) (hj : 0 ≤ i ∧ i ≤ (len : Int))
    (h : WL mo P ops Q rest n ds ((d, sliceV A cap sz i.toNat len) :: l) Γ I L) : WL mo P ops Q (⟨some d, .slice T x (some y) none none, t, pos, af, none⟩ :: rest) n ds l Γ I L :=
  WL.val hd (fun a w hf _ => by
    simp only [execOp, hf.ev hx, Option.map_some, Option.map_none, hf.ev hy]
    refine run_v ?_
    unfold sliceT at hT
    split at hT
    · rename_i e hu
      injection hT with hT; subst hT
      unfold Instr.sliceAt
      rw [run_bind, run_underlying hu]
      simp only [Instr.slice, run_bind, run_underlying hu, Instr.sliceBounds, run_pure, run_bound rfl hj, run_sizeOf hs, sliceV, Option.isSome_none]
    · simp at hT) h
theorem WL.str_lohi {T : TypeId} {x y z : Operand} {s : ByteArray} {k k' : IntKind} {i j : Int} (hx : ev l x = some (.string s)) (hy : ev l y = some (.int k i)) (hz : ev l z = some (.int k' j)) (hT : strT P T = true) (hd : Nat.ble (d + 1) n = true) (hj : 0 ≤ i ∧ i ≤ j ∧ j ≤ (s.size : Int))
    (h : WL mo P ops Q rest n ds ((d, .string (s.extract i.toNat j.toNat)) :: l) Γ I L) : WL mo P ops Q (⟨some d, .slice T x (some y) (some z) none, t, pos, af, none⟩ :: rest) n ds l Γ I L :=
  WL.val hd (fun a w hf _ => by
    simp only [execOp, hf.ev hx, Option.map_some, Option.map_none, hf.ev hy, hf.ev hz]
    refine run_v ?_
    unfold strT at hT
    split at hT
    · rename_i hu
      unfold Instr.sliceAt
      rw [run_bind, run_underlying hu]
      simp only [Instr.slice, run_bind, run_underlying hu, Instr.sliceBounds, run_pure, run_bound rfl (show 0 ≤ j ∧ j ≤ (s.size : Int) by omega), run_bound rfl (show 0 ≤ i ∧ i ≤ ((j.toNat : Nat) : Int) by omega), Option.isSome_none, Bool.false_eq_true, if_false]
    · simp at hT) h
theorem WL.str_lo {T : TypeId} {x y : Operand} {s : ByteArray} {k : IntKind} {i : Int} (hx : ev l x = some (.string s)) (hy : ev l y = some (.int k i)) (hT : strT P T = true) (hd : Nat.ble (d + 1) n = true) (hj : 0 ≤ i ∧ i ≤ (s.size : Int))
    (h : WL mo P ops Q rest n ds ((d, .string (s.extract i.toNat s.size)) :: l) Γ I L) : WL mo P ops Q (⟨some d, .slice T x (some y) none none, t, pos, af, none⟩ :: rest) n ds l Γ I L :=
  WL.val hd (fun a w hf _ => by
    simp only [execOp, hf.ev hx, Option.map_some, Option.map_none, hf.ev hy]
    refine run_v ?_
    unfold strT at hT
    split at hT
    · rename_i hu
      unfold Instr.sliceAt
      rw [run_bind, run_underlying hu]
      simp only [Instr.slice, run_bind, run_underlying hu, Instr.sliceBounds, run_pure, run_bound rfl hj, Option.isSome_none, Bool.false_eq_true, if_false]
    · simp at hT) h

/-! ### Writing to cells of one's own -/
/-- A store at a place that is worked out: the cells, written anew. -/
theorem WL.store_at (k : Nat) {T : TypeId} {x y : Operand} {b off m : Nat} {c : List Value} {E : TypeId} {v : Value} {vs : List Value} {L' : List Chunk} (hx : ev l x = some (.pointer (some ⟨b, off, none⟩))) (hy : ev l y = some v) (hk : nth L k = some [(b, .cells c.toArray E (0, 0))])
    (hvs : cellsO v = some vs) (hm : szT P T = some m) (hl : Nat.beq vs.length m = true) (hone : vs.all one1 = true) (hoff : off + vs.length ≤ c.length)
    (hL : setO L k [(b, .cells (setsL c off vs).toArray E (0, 0))] = some L') (h : WL .seq P ops Q rest n ds l Γ I L') : WL .seq P ops Q (⟨none, .store T x y, t, pos, af, none⟩ :: rest) n ds l Γ I L :=
  WL.unit (fun a w hf hs => by
    have hk' : L[k]? = some [(b, .cells c.toArray E (0, 0))] := by rw [← nth_eq]; exact hk
    have hb := hs.at_ hk'
    have hlen := Nat.eq_of_beq_eq_true hl
    have hvs := cellsO_some hvs
    subst hvs
    have hL' := (setO_some hL).2
    subst hL'
    refine ⟨_, ?_, hs.setAt hk'⟩
    simp only [execOp, hf.ev hx, hf.ev hy]
    have hsz : v.cells.size = m := by simpa using hlen
    have hr : (Instr.storeAt T (.pointer (some ⟨b, off, none⟩)) v).run P w = .ok () { w with heap := w.heap.setIfInBounds b (.cells (setsL c off v.cells.toList).toArray E (0, 0)) } := by
      unfold Instr.storeAt
      rw [run_bind]
      show (storeVar T ⟨b, off, none⟩ v).run P w = _
      rw [storeVar_run hb (by rw [hm, hsz]) (fun x hx => List.all_eq_true.1 hone x hx) (by simpa using hoff), putCells_eq hoff]
    rw [run_bind, hr]
    rfl) h

/-- An operation that comes to a value that nobody keeps. -/
theorem WL.opn {op : Op} {T : List Chunk → Prop}
    (hrun : ∀ a w, Fr a n ds l → St Γ I L w → ∃ v w' L', (execOp a.eval ⟨none, op, t, pos, af, none⟩).run P w = .ok (.value v) w' ∧ St Γ I L' w' ∧ T L')
    (h : ∀ L', T L' → WL .seq P ops Q rest n ds l Γ I L') : WL .seq P ops Q (⟨none, op, t, pos, af, none⟩ :: rest) n ds l Γ I L := fun a w hf hs => by
  refine wpList_plain rfl fun K hK => ?_
  obtain ⟨v, w', L', hr, hs', hT⟩ := hrun a w hf hs
  unfold Oper.wp
  rw [hr]
  exact hK _ _ (h L' hT _ _ hf hs')
theorem St.storeRow {k b off : Nat} {c vs : List Value} {E : TypeId} {L' : List Chunk} {w : World} (hs : St Γ I L w) (hk : nth L k = some [(b, .cells c.toArray E (0, 0))]) (hone : ∀ v ∈ vs, one1 v = true) (hoff : off + vs.length ≤ c.length)
    (hL : setO L k [(b, .cells (setsL c off vs).toArray E (0, 0))] = some L') : ∃ w', (storeCells ⟨b, off, none⟩ vs).run P w = .ok () w' ∧ St Γ I L' w' := by
  have hb := hs.at_ (by rw [← nth_eq]; exact hk)
  have h1 := storeCells_run (P := P) w vs b off 0 c.toArray E hb hone (by simpa using hoff)
  have h2 := putCells_eq hoff
  unfold putCells at h2
  refine ⟨_, by simpa using h1, ?_⟩
  have := hs.setRow hk hL
  rw [← h2] at this
  simpa using this
/-- 'clear(s)'. -/
theorem WL.clear_own (k : Nat) {T E ty : TypeId} {x : Operand} {b off len cap : Nat} {z : Value} {zs c : List Value} {E' : TypeId} {L' : List Chunk} (hx : ev l x = some (.slice (some ⟨b, off, none⟩) len cap)) (hT : sliceT P T = some E) (hz : zeroT P E = some z) (hzs : cellsO z = some zs) (hone : zs.all one1 = true) (hne : zs.isEmpty = false) (hk : nth L k = some [(b, .cells c.toArray E' (0, 0))])
    (hoff : off + len * zs.length ≤ c.length) (hL : setO L k [(b, .cells (setsL c off (zerosL zs len)).toArray E' (0, 0))] = some L')
    (h : WL .seq P ops Q rest n ds l Γ I L') : WL .seq P ops Q (⟨none, .call { callee := .builtin .clear, args := [x].toArray, argTypes := [T].toArray }, ty, pos, af, none⟩ :: rest) n ds l Γ I L :=
  WL.opn (T := fun L1 => L1 = L') (fun a w hf hs => by
    unfold sliceT at hT
    split at hT
    case h_2 => simp at hT
    rename_i e hu
    injection hT with hT; subst hT
    have hzc := cellsO_some hzs
    have hne' : zs ≠ [] := fun e => by subst e; simp at hne
    have hzl : (Builtin.zeroCells zs.toArray len).toList = zerosL zs len := zerosL_eq zs hne' len
    have hlen : (zerosL zs len).length = len * zs.length := by rw [← hzl, Array.length_toList, zeroCells_len]; rfl
    have hone' : ∀ v ∈ zerosL zs len, one1 v = true := by
      intro v hv
      rw [← hzl] at hv
      simp only [Builtin.zeroCells, Array.toList_map, List.mem_map] at hv
      obtain ⟨i, _, rfl⟩ := hv
      have hlt : i % zs.toArray.size < zs.toArray.size := Nat.mod_lt _ (by simpa using List.length_pos_iff.2 hne')
      rw [getElem!_pos zs.toArray _ hlt]
      exact List.all_eq_true.1 hone _ (by simp)
    obtain ⟨w', hr, hs'⟩ := hs.storeRow (P := P) (vs := zerosL zs len) hk hone' (by rw [hlen]; exact hoff) hL
    refine ⟨.tuple #[], w', L', ?_, hs', rfl⟩
    rw [← hzl] at hr
    have hz' : zs.toArray = z.cells := by apply Array.toList_inj.1; rw [hzc]
    cases len with
    | zero =>
      have h0 : w' = w := by
        have : (storeCells ⟨b, off, none⟩ (Builtin.zeroCells zs.toArray 0).toList).run P w = .ok () w := by simp [Builtin.zeroCells, storeCells]
        rw [hr] at this; injection this
      subst h0
      simp [execOp, resolve, hf.ev hx, invoke, builtin, Builtin.clear_, run_underlying hu]
    | succ m =>
      rw [hz'] at hr
      simp [execOp, resolve, hf.ev hx, invoke, builtin, Builtin.clear_, run_underlying hu, run_zero hz, hr])
    (fun L1 e => by subst e; exact h)

/-- 'copy(dst, src)', 'dst' of one's own. -/
theorem WL.copy_own (k : Nat) {T T2 E ty : TypeId} {x y : Operand} {b off len cap m cap2 sz : Nat} {A2 : Addr} {c news : List Value} {E' : TypeId} {L' : List Chunk} (hx : ev l x = some (.slice (some ⟨b, off, none⟩) len cap)) (hy : ev l y = some (.slice (some A2) m cap2)) (hT : sliceT P T = some E) (hs : szT P E = some sz)
    (hk : nth L k = some [(b, .cells c.toArray E' (0, 0))]) (hsrc : AtW Γ I L A2 news) (hnl : news.length = Nat.min m len * sz) (hone : news.all one1 = true) (hoff : off + news.length ≤ c.length) (hL : setO L k [(b, .cells (setsL c off news).toArray E' (0, 0))] = some L')
    (h : WL .seq P ops Q rest n ds l Γ I L') : WL .seq P ops Q (⟨none, .call { callee := .builtin .copy, args := [x, y].toArray, argTypes := [T, T2].toArray }, ty, pos, af, none⟩ :: rest) n ds l Γ I L :=
  WL.opn (T := fun L1 => L1 = L') (fun a w hf hst => by
    unfold sliceT at hT
    split at hT
    case h_2 => simp at hT
    rename_i e hu
    injection hT with hT; subst hT
    obtain ⟨w', hr, hs'⟩ := hst.storeRow (P := P) (vs := news) hk (fun v hv => List.all_eq_true.1 hone v hv) hoff hL
    refine ⟨goInt (Nat.min m len), w', L', ?_, hs', rfl⟩
    have h2 : (Builtin.firstCells sz (Nat.min m len) (.slice (some A2) m cap2)).run P w = .ok news.toArray w := run_firstCells_some w _ _ _ _ _ news hnl (hsrc w hst)
    simp only [execOp, resolve, invoke, builtin, List.map_toArray, List.map_cons, List.map_nil, hf.ev hx, hf.ev hy]
    simp [Builtin.copy_, run_underlying hu, Builtin.lenOf, run_sizeOf hs, h2, hr])
    (fun L1 e => by subst e; exact h)
theorem WL.copy_nil {T T2 E ty : TypeId} {x y : Operand} {A : Option Addr} {len cap sz cap2 : Nat} (hx : ev l x = some (.slice A len cap)) (hy : ev l y = some (.slice none 0 cap2)) (hT : sliceT P T = some E) (hs : szT P E = some sz)
    (h : WL .seq P ops Q rest n ds l Γ I L) : WL .seq P ops Q (⟨none, .call { callee := .builtin .copy, args := [x, y].toArray, argTypes := [T, T2].toArray }, ty, pos, af, none⟩ :: rest) n ds l Γ I L :=
  WL.opn (T := fun L1 => L1 = L) (fun a w hf hst => by
    unfold sliceT at hT
    split at hT
    case h_2 => simp at hT
    rename_i e hu
    injection hT with hT; subst hT
    refine ⟨goInt 0, w, L, ?_, hst, rfl⟩
    simp only [execOp, resolve, invoke, builtin, List.map_toArray, List.map_cons, List.map_nil, hf.ev hx, hf.ev hy]
    cases A <;> simp [Builtin.copy_, run_underlying hu, Builtin.lenOf, Builtin.firstCells, run_sizeOf hs, storeCells])
    (fun L1 e => by subst e; exact h)

/-- 'make([]T, n)'. -/
theorem WL.makeSlice {T E : TypeId} {x : Operand} {m sz by' : Nat} {z : Value} {zs : List Value} (hx : ev l x = some (.int .i64 m)) (hT : sliceT P T = some E) (hs : szT P E = some sz) (hb : bytesT P E = some by') (hz : zeroT P E = some z) (hzs : cellsO z = some zs) (hzl : Nat.beq zs.length sz = true) (hne : zs.isEmpty = false) (hfit : by' * m ≤ 281474976710656) (h63 : m ≤ 9223372036854775807) (hd : Nat.ble (d + 1) n = true)
    (h : ∀ b, WL .seq P ops Q rest n ds ((d, .slice (some ⟨b, 0, none⟩) m m) :: l) Γ I ([(b, .cells (zerosL zs m).toArray E (0, 0))] :: L)) : WL .seq P ops Q (⟨some d, .makeSlice T x x, t, pos, af, none⟩ :: rest) n ds l Γ I L :=
  WL.newBlock (f := fun a => .slice (some a) m m) hd (fun a w hf hst => by
    obtain ⟨i, hi, hisz, hiby, hiz⟩ := info_of hs hb hz
    unfold sliceT at hT
    split at hT
    case h_2 => simp at hT
    rename_i e hu
    injection hT with hT; subst hT
    have hzc := cellsO_some hzs
    have hne' : zs ≠ [] := fun e => by subst e; simp at hne
    have hzl' := Nat.eq_of_beq_eq_true hzl
    have hw : IntKind.i64.wrap (m : Int) = m := IntWalk.i64_in _ (by omega)
    have h1 : ¬ (281474976710656 < (by' : Int) * (m : Int)) := by rw [← Int.natCast_mul]; omega
    have h2 : ¬ ((m : Int) < 0) := by omega
    have hz' : z.cells = zs.toArray := by apply Array.toList_inj.1; rw [hzc]
    simp only [execOp, hf.ev hx]
    refine run_v ?_
    have hzz := zerosL_eq zs hne' m
    have hpos : 0 < zs.length := List.length_pos_iff.2 hne'
    by_cases hm : m = 0
    · subst hm
      have hw0 : IntKind.i64.wrap 0 = 0 := IntWalk.i64_in _ (by omega)
      simp [Instr.makeSlice, run_underlying hu, asInt, asIntOf, typeInfo, hi, hiby, sizeOf, hisz, newRow, askRoom, zerosL, hw0]
      exact congrArg (fun c => World.alloc w (.cells c e)) (by simp)
    · have hmz : ¬ (m * sz = 0) := by rw [← hzl']; exact Nat.mul_ne_zero hm (by omega)
      have : (Array.range (m * sz)).map (fun x => zs.toArray[x % zs.toArray.size]!) = (zerosL zs m).toArray := by
        apply Array.toList_inj.1; rw [← hzl']; exact hzz
      simp [Instr.makeSlice, run_underlying hu, asInt, asIntOf, typeInfo, hi, hiby, sizeOf, hisz, newRow, askRoom, hw, h1, h2, hmz, zeroValue, hiz, hz']
      rw [← this]; simp) h
end
end Go.Proofs.YtddkkmdbolgnlaaDoor.Fw
namespace Go.Proofs.YtddkkmdbolgnlaaDoor.Fw
section
variable {mo : Md} {P : Program} {ops : Array Oper} {Q : Exit → Act → World → Prop} {rest : List Oper} {n : Nat} {ds : List Deferred} {l : List (Nat × Value)} {Γ : Env} {I : Mem} {L : List Chunk}
variable {d : Nat} {t : TypeId} {pos : String} {af : Array Edge}
theorem Own.head {w0 w : World} {M : List Nat} {C : Chunk} {D : List Chunk} (this : Own w0 M I (C :: D).flatten w) : Own w (C.map Prod.fst) I C w := by
  simp only [List.flatten_cons] at this
  refine ⟨fun p hp => this.has p (List.mem_append_left _ hp), fun p hp => this.out p (List.mem_append_left _ hp), ?_, fun p hp => .inr (List.mem_map.2 ⟨p, hp, rfl⟩)⟩
  have h1 := this.apart
  rw [List.map_append] at h1
  exact (List.nodup_append.1 h1).1
/-- A call that reads a chunk of one's own and leaves all as it was. -/
theorem WL.callQ [mo.Calls] (k : Nat) {f : FuncId} {fn : Func} {args : List Value} {xs : List Operand} {Ts : Array TypeId} {v : Value} {C : Chunk} (hok : okFn P f fn)
    (ha : evs l xs = some args) (hd : Nat.ble (d + 1) n = true) (hk : nth L k = some C) (hspec : Spec P f args I C (fun v' I' C' => v' = v ∧ I' = I ∧ C' = C))
    (h : WL mo P ops Q rest n ds ((d, v) :: l) Γ I L) : WL mo P ops Q (⟨some d, .call { callee := .value (.func f), args := xs.toArray, argTypes := Ts }, t, pos, af, none⟩ :: rest) n ds l Γ I L :=
  have hp : (C :: L.eraseIdx k).flatten.Perm L.flatten := perm_top (by rw [← nth_eq]; exact hk)
  match mo, ‹mo.Calls›, h with
  | .pure, hc, _ => absurd rfl hc.ne
  | .seq, _, h => WL.perm (L' := C :: L.eraseIdx k) (fun _ hs => hs.perm hp)
    (WL.call1 hok ha hd hspec fun v' I' C' _ ⟨h1, h2, h3⟩ => by
      subst h1; subst h2; subst h3
      exact WL.perm (L' := L) (fun _ hs => hs.perm hp.symm) h)
  | .any, _, h => fun a hf => by
    refine wpQuiet_step fun K hK => ?_
    rw [if_pos (by simp [Region.wanted])]
    refine ⟨v, fun w hs => ?_, hK _ (h _ (hf.put hd v))⟩
    unfold Oper.quietAt
    simp only [execOp]
    rw [run_callValue (first := []) (cap := []) (args := args) (x := .func f) hok rfl rfl (hf.evs ha)]
    refine ⟨rfl, ?_⟩
    have hs' : St Γ I (C :: L.eraseIdx k) w := hs.perm hp
    have hspec' := hspec w hs.ext.imm hs'.own.head
    simp only [List.nil_append, List.append_nil]
    refine hspec'.mono fun e w' ⟨v', I', C', he, hx', ho', h1, h2, h3⟩ => ?_
    subst h1; subst h2; subst h3
    exact ⟨he, (hs'.call hx' ho').perm hp.symm⟩
end
end Go.Proofs.YtddkkmdbolgnlaaDoor.Fw
namespace Go.Proofs.YtddkkmdbolgnlaaDoor.Fw
section
variable {mo : Md} {P : Program} {ops : Array Oper} {Q : Exit → Act → World → Prop} {rest : List Oper} {n : Nat} {ds : List Deferred} {l : List (Nat × Value)} {Γ : Env} {I : Mem} {L : List Chunk}
variable {d : Nat} {t : TypeId} {pos : String} {af : Array Edge}
theorem run_append_zeros (w : World) (t t2 ty e : TypeId) (i : TypeInfo) (z : Value) (ht : P.underlying t = some (.slice e)) (ht2 : P.underlying t2 = some (.int .i64)) (hi : P.info? e = some i) (hz : i.zero = some z) (base : Option Addr) (sLen sCap m : Nat) (olds : List Value)
    (hold : (Builtin.firstCells i.size sLen (.slice base sLen sCap)).run P w.drew = .ok olds.toArray w.drew) (hm : 0 < m * i.size) (hg : sCap < sLen + m) (h63 : ((sLen + m : Nat) : Int) ≤ 9223372036854775807) (hb : m * i.bytes ≤ 281474976710656) (hfit : Builtin.nextslicecap (sLen + m) sCap * i.bytes ≤ 281474976710656) :
    (Builtin.append_ #[t, t2] ty #[.slice base sLen sCap, .int .i64 m]).run P w =
      .ok (.slice (some ⟨w.heap.size, 0, none⟩) (sLen + m) (grownCap w (sLen + m) sCap e))
        (w.drew.alloc (.cells ((olds ++ (Builtin.zeroCells z.cells m).toList).toArray ++ Builtin.zeroCells z.cells (grownCap w (sLen + m) sCap e - (sLen + m))) e)) := by
  have hn : ¬ (sLen + m ≤ sCap) := by omega
  have h63' : ¬ (9223372036854775807 < ((sLen : Int) + (m : Int))) := by omega
  have h48' : ¬ (281474976710656 < Builtin.nextslicecap (sLen + m) sCap * i.bytes) := by omega
  have hw : IntKind.i64.wrap (m : Int) = m := IntWalk.i64_in _ (by omega)
  have hneg : ¬ ((m : Int) < 0) := by omega
  have hb' : ¬ (281474976710656 < (m : Int) * (i.bytes : Int)) := by rw [← Int.natCast_mul]; omega
  have hm' : ¬ (m * i.size = 0) := by omega
  have hm0 : ¬ (m = 0) := fun e => by subst e; simp at hm
  have hs0 : ¬ (i.size = 0) := fun e => by rw [e] at hm; simp at hm
  simp [Builtin.append_, run_underlying ht, run_underlying ht2, sizeOf, typeInfo, zeroValue, hi, hz, hn, h63', h48', Question.forced, hold, newRow, grownCap, asInt, asIntOf, hw, hneg, hb', hm0, hs0]
  rw [if_neg hm']
  congr 3
  apply Array.ext'
  simp [List.append_assoc]
/-- 'append(s, make([]T, n)...)', where there is no room. -/
theorem WL.append_zeros (k : Nat) {T T2 E ty : TypeId} {x y : Operand} {A : Option Addr} {len cap sz by' m : Nat} {z : Value} {zs cs : List Value} {C : Chunk} {F : Chunk → List Chunk}
    (hx : ev l x = some (.slice A len cap)) (hy : ev l y = some (.int .i64 (m : Int))) (hT : sliceT P T = some E) (hT2 : intT P T2 = some .i64) (hs : szT P E = some sz) (hb : bytesT P E = some by') (hz : zeroT P E = some z) (hzs : cellsO z = some zs) (hzl : Nat.beq zs.length sz = true) (hne : zs.isEmpty = false)
    (hk : nth L k = some C) (hF : ∀ C', setO L k C' = some (F C')) (hC : SlO sz cs A cap C) (hlen : cs.length = len * sz) (hm : 0 < m) (hg : cap < len + m) (hfit : (len + m) * by' ≤ 140737488355328) (h63 : len + m ≤ 9223372036854775807) (hd : Nat.ble (d + 1) n = true)
    (h : ∀ A' cap' C', SlO sz (cs ++ zerosL zs m) A' cap' C' → WL .seq P ops Q rest n ds ((d, .slice A' (len + m) cap') :: l) Γ I (F C')) :
    WL .seq P ops Q (⟨some d, .call { callee := .builtin .append, args := [x, y].toArray, argTypes := [T, T2].toArray }, ty, pos, af, none⟩ :: rest) n ds l Γ I L :=
  WL.opx (T := fun v I' L' => I' = I ∧ ∃ A' cap' C', SlO sz (cs ++ zerosL zs m) A' cap' C' ∧ v = .slice A' (len + m) cap' ∧ L' = F C') hd
    (fun a w hf hst => by
      obtain ⟨i, hi, hisz, hiby, hiz⟩ := info_of hs hb hz
      unfold sliceT at hT
      split at hT
      case h_2 => simp at hT
      rename_i e hu
      injection hT with hT; subst hT
      have hu2 : P.underlying T2 = some (.int .i64) := by
        unfold intT at hT2
        split at hT2
        · rename_i q hq; injection hT2 with hT2; subst hT2; exact hq
        · simp at hT2
      have hexec : ∀ v w', (Builtin.append_ #[T, T2] ty #[.slice A len cap, .int .i64 m]).run P w = .ok v w' → (execOp a.eval ⟨some d, .call { callee := .builtin .append, args := [x, y].toArray, argTypes := [T, T2].toArray }, ty, pos, af, none⟩).run P w = .ok (.value v) w' := fun v w' hr => by
        simp [execOp, resolve, hf.ev hx, hf.ev hy, invoke, builtin, hr]
      have hzc := cellsO_some hzs
      have hzl' := Nat.eq_of_beq_eq_true hzl
      have hne' : zs ≠ [] := fun e => by subst e; simp at hne
      have hpos : 0 < zs.length := List.length_pos_iff.2 hne'
      have hz' : z.cells = zs.toArray := by apply Array.toList_inj.1; rw [hzc]
      have hzero : (Builtin.zeroCells z.cells m).toList = zerosL zs m := by rw [hz']; exact zerosL_eq zs hne' m
      have hold : (Builtin.firstCells i.size len (.slice A len cap)).run P w.drew = .ok cs.toArray w.drew := by
        rcases hC with ⟨rfl, rfl, rfl, rfl⟩ | ⟨b, pad, E', rfl, rfl, hpad, _⟩
        · rw [run_firstCells_none]
        · refine run_firstCells_some w.drew _ _ _ _ _ cs (by rw [hisz]; exact hlen) fun j v hj => ?_
          rw [add_at]
          have := hst.cell_own (off := j) (v := v) (by rw [← nth_eq]; exact hk) (by
            have := (List.getElem?_eq_some_iff.1 hj).1
            simpa [List.getElem?_append_left this] using hj)
          simpa using this
      have hmb : m * by' ≤ (len + m) * by' := Nat.mul_le_mul_right _ (by omega)
      have hr := run_append_zeros (P := P) w T T2 ty e i z hu hu2 hi hiz A len cap m cs hold (by rw [hisz, ← hzl']; exact Nat.mul_pos hm hpos) hg (by omega) (by rw [hiby]; omega) (by rw [hiby]; exact growslice_fits hg hfit)
      rw [hzero] at hr
      have hcap := grownCap_ge w (len + m) cap e
      have hcmx := grownCap_le_maxLen w (len + m) cap e (by unfold maxLen; omega)
      unfold maxLen at hcmx
      generalize hgc : grownCap w (len + m) cap e = gc at hr hcap hcmx
      have hs1 : St Γ I L w.drew := hst.drew (w.drawn + 1)
      have hs2 := hs1.alloc (.cells ((cs ++ zerosL zs m).toArray ++ Builtin.zeroCells z.cells (gc - (len + m))) e (0, 0))
      refine ⟨_, _, I, F [(w.heap.size, .cells ((cs ++ zerosL zs m) ++ (Builtin.zeroCells z.cells (gc - (len + m))).toList).toArray e (0, 0))], hexec _ _ hr, ?_, rfl, _, gc, _, .inr ⟨w.heap.size, (Builtin.zeroCells z.cells (gc - (len + m))).toList, e, rfl, rfl, ?_, hcmx⟩, rfl, rfl⟩
      · have hL := (setO_some (hF [(w.heap.size, .cells ((cs ++ zerosL zs m) ++ (Builtin.zeroCells z.cells (gc - (len + m))).toList).toArray e (0, 0))])).2
        rw [hL]
        have e1 : ((cs ++ zerosL zs m).toArray ++ Builtin.zeroCells z.cells (gc - (len + m))) = ((cs ++ zerosL zs m) ++ (Builtin.zeroCells z.cells (gc - (len + m))).toList).toArray := by
          apply Array.toList_inj.1; simp
        rw [e1] at hs2 ⊢
        have hk2 : L[k]? = some C := by rw [← nth_eq]; exact hk
        have h3 : St Γ I ([(w.heap.size, Obj.cells ((cs ++ zerosL zs m) ++ (Builtin.zeroCells z.cells (gc - (len + m))).toList).toArray e (0, 0))] :: C :: L.eraseIdx k) _ := hs2.perm (by
          have := perm_top hk2
          simp only [List.flatten_cons] at this ⊢
          exact List.Perm.append_left _ this)
        have h4 : St Γ I ([(w.heap.size, Obj.cells ((cs ++ zerosL zs m) ++ (Builtin.zeroCells z.cells (gc - (len + m))).toList).toArray e (0, 0))] :: L.eraseIdx k) _ := (h3.perm (L' := C :: [(w.heap.size, Obj.cells ((cs ++ zerosL zs m) ++ (Builtin.zeroCells z.cells (gc - (len + m))).toList).toArray e (0, 0))] :: L.eraseIdx k) (by
          simp only [List.flatten_cons]
          rw [← List.append_assoc, ← List.append_assoc]
          exact List.Perm.append_right _ List.perm_append_comm)).drop
        exact h4.perm (perm_set hk2)
      · have hzz : z.cells.size = sz := by rw [hz']; exact hzl'
        have hz2 : (Builtin.zeroCells z.cells (gc - (len + m))).toList.length = (gc - (len + m)) * sz := by rw [Array.length_toList, zeroCells_len, hzz]
        have hz3 : (zerosL zs m).length = m * sz := by rw [← hzero, Array.length_toList, zeroCells_len, hzz]
        rw [hz2, List.length_append, hlen, hz3, ← Nat.add_mul, ← Nat.add_mul, Nat.add_sub_cancel' hcap])
    (fun v I' L' ⟨hI, A', cap', C', hC', hv, hL⟩ => by subst hI; subst hv; subst hL; exact h A' cap' C' hC')
end
/-- A slice cut anew within its room. -/
theorem SlO.recut {sz : Nat} {cs : List Value} {A : Option Addr} {cap : Nat} {C : Chunk} (h : SlO sz cs A cap C) : ∃ cs2, SlO sz (cs ++ cs2) A cap C ∧ cs.length + cs2.length = cap * sz := by
  rcases h with ⟨rfl, rfl, rfl, rfl⟩ | ⟨b, pad, E, rfl, rfl, hp, hc⟩
  · exact ⟨[], .inl ⟨rfl, rfl, rfl, rfl⟩, by simp⟩
  · exact ⟨pad, .inr ⟨b, [], E, rfl, by simp, by simpa using hp, hc⟩, hp⟩
theorem SlO.less {sz : Nat} {cs cs2 : List Value} {A : Option Addr} {cap : Nat} {C : Chunk} (h : SlO sz (cs ++ cs2) A cap C) : SlO sz cs A cap C := by
  rcases h with ⟨rfl, h2, rfl, rfl⟩ | ⟨b, pad, E, rfl, rfl, hp, hc⟩
  · have := List.append_eq_nil_iff.1 h2
    rw [this.1]; exact .inl ⟨rfl, rfl, rfl, rfl⟩
  · exact .inr ⟨b, cs2 ++ pad, E, rfl, by simp, by simp at hp ⊢; omega, hc⟩
theorem SlO.cap_le {sz : Nat} {cs : List Value} {A : Option Addr} {cap : Nat} {C : Chunk} (h : SlO sz cs A cap C) : cap ≤ 9223372036854775807 := by
  rcases h with ⟨_, _, rfl, _⟩ | ⟨_, _, _, _, _, _, hc⟩
  · omega
  · exact hc
theorem SlO.cut0 {sz : Nat} {cs : List Value} {A : Option Addr} {cap : Nat} {C : Chunk} (h : SlO sz cs A cap C) (m : Nat) : sliceV A cap sz 0 m = .slice A m cap := by
  rcases h with ⟨rfl, rfl, rfl, rfl⟩ | ⟨b, pad, E, rfl, rfl, hp, hc⟩
  · rfl
  · unfold sliceV
    split
    · rfl
    · simp only [Option.map_some, add_at, Nat.zero_mul, Nat.add_zero, Nat.sub_zero]
theorem SlO.ne {sz : Nat} {cs : List Value} {A : Option Addr} {cap : Nat} {C : Chunk} (h : SlO sz cs A cap C) (hne : 0 < cap) : ∃ b pad E, A = some ⟨b, 0, none⟩ ∧ C = [(b, .cells (cs ++ pad).toArray E (0, 0))] ∧ cs.length + pad.length = cap * sz := by
  rcases h with ⟨rfl, rfl, rfl, rfl⟩ | ⟨b, pad, E, rfl, rfl, hp, hc⟩
  · omega
  · exact ⟨b, pad, E, rfl, rfl, hp⟩
theorem SlO.len_le {sz : Nat} {cs : List Value} {A : Option Addr} {cap : Nat} {C : Chunk} (h : SlO sz cs A cap C) : cs.length ≤ cap * sz := by
  rcases h with ⟨rfl, rfl, rfl, rfl⟩ | ⟨b, pad, E, rfl, rfl, hp, hc⟩
  · simp
  · omega
end Go.Proofs.YtddkkmdbolgnlaaDoor.Fw

