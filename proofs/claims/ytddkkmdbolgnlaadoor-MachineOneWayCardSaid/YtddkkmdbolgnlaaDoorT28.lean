/- MachineOneWay: for every code, every input and every two numbers of steps the law returns true, and each argument reads behind the call as it read before. Conditions: the listed package variables (unicode.White_Space, strings.asciiSpace) hold what the program's text lays; the card ties that to the text. -/
import Derived.Test.YtddkkmdbolgnlaaDoorT27
import Derived.Test.YtddkkmdbolgnlaaDoorWalkG
import Derived.Test.YtddkkmdbolgnlaaDoorRows
import Derived.Test.YtddkkmdbolgnlaaDoorTie
import Derived.Test.YtddkkmdbolgnlaaDoorCards
import Derived.LaidMore
import Derived.LaidHandle
import Derived.LaidLaws
import Derived.Carry
import Derived.Stop.Joined
import Derived.JoinedOf
import Derived.RowKit
import Derived.RowKitTokens
import Derived.ProofKit
import Derived.SevenTiedAt
set_option linter.unusedVariables false
set_option linter.unusedSimpArgs false
namespace Go.Proofs.YtddkkmdbolgnlaaDoor
open Go.Proofs.YtddkkmdbolgnlaaDoor.Fw Go.ChangeShapes Go.WideShapes Go.RowKit
set_option maxRecDepth 100000
set_option linter.unusedVariables false
theorem own : ownKnob Tryd.prog.godebug = none := by kernel_rfl
theorem laidOut : laidOutB Tryd.prog = true := by kernel_rfl
theorem gSpace : Tryd.prog.globalNamed "strings.asciiSpace" = some 0 := by kernel_rfl
theorem tSpace : (Tryd.prog.globals[0]?).map (·.type) = some 139 := by kernel_rfl
theorem cSpace : Tryd.prog.cellsOf 5 = 1 := by kernel_rfl
def laidL : List (String × DataW Unit) := [("unicode.White_Space", Rows.laid_unicode_White_Space), ("strings.asciiSpace", Rows.laid_strings_asciiSpace)]
theorem space_list {H : Type} : (Rows.laid_strings_asciiSpace : DataW H) = .agg ((List.range 256).map fun i => .lit (.int .u8 (bI (isSp (UInt8.ofNat i))))) := by kernel_rfl
/-- The heap in which the listed variables hold what the text lays meets the row's condition. -/
theorem door_met (os : Os) (args : Array Value) : laidMetH Tryd.prog laidL ((World.doorLaid Tryd.prog 33 os).forCall (fun _ _ => 0) ⟨#[], args, []⟩).memory :=
  laidMetH_of_parts3 (fuel := 8) (laidMet_of_run' 8 (by kernel_rfl) (by kernel_rfl)) (by kernel_rfl) (by kernel_rfl)
/-- What the condition gives the walk: the table of spaces. -/
theorem of_laid {W : World} (h : laidMetH Tryd.prog laidL W) : SpTab 0 (memOf W) := by
  rw [MakeChecks.laidMetH_plain _ _ _ (by kernel_rfl)] at h
  obtain ⟨ps, ⟨g0, t0, cs0, f0, p0, q0, hg0, ht0, hv0, hd0, ⟨g1, t1, cs1, f1, p1, q1, hg1, ht1, hv1, hd1, _, _⟩, _⟩, _, _⟩ := h
  obtain rfl := Option.some.inj (gSpace.symm.trans hg1)
  obtain rfl := Option.some.inj (tSpace.symm.trans ht1)
  rw [space_list] at hd1
  obtain ⟨xs, m1, rfl, hx1, hlen, hn, hel⟩ := DataW.trod_array Tryd.underlying139 hd1
  simp only [Prod.mk.injEq, DataW.agg.injEq] at hx1
  intro c
  have hc : c.toNat < 256 := c.toNat_lt
  have h0 := hel c.toNat hc
  rw [cSpace, List.getElem?_eq_getElem (by omega)] at h0
  obtain ⟨kk, e1, e2, _⟩ := DataW.trod_int Tryd.underlying5 h0
  have h2 := congrArg (·[c.toNat]?) hx1.1
  simp only [List.getElem?_map, List.getElem?_range hc, List.getElem?_eq_getElem (show c.toNat < xs.length by omega), Option.map_some, Option.some.injEq] at h2
  rw [e2] at h2
  simp only [DataW.lit.injEq, Lit.int.injEq, true_and] at h2
  rw [UInt8.ofNat_toNat] at h2
  have h3 := World.var?_cell hg1 hv1 c.toNat
  have h4 := take1 e1
  rw [Nat.mul_one] at h4
  show W.cell? ⟨0, c.toNat, none⟩ = _
  rw [h3, ← Array.getElem?_toList, h4, ← h2]
theorem lifted (os : Os) (started : os.Started) (H : Type) (enc : TypeId × Value → H) :
    ReturnsInHanded {} Tryd.checked os 3 .any (fun w args => (Rows.machineOneWaySpec.pre enc Tryd.prog Tryd.f3 [] false w args ∧ laidMetH Tryd.prog laidL w) ∧ sizedMet enc Tryd.prog Tryd.f3 (OpenSpec.ofChange Rows.machineOneWaySpec) false w args)
      (Rows.machineOneWaySpec.post enc Tryd.prog Tryd.f3 false true false false) := by
  refine returnsInHanded_of_change_and (C := Tryd.checked) (X := fun w _ => laidMetH Tryd.prog laidL w) (fun _ _ _ hh h => h.of_heap hh) own started (by kernel_rfl) Tryd.func3
    (ChangeSpec.witness_shaped (enc := enc) (C := Tryd.checked) (os := os) (X := fun w _ => laidMetH Tryd.prog laidL w) false (World.doorLaid Tryd.prog 33 os) #[.agg #[.slice none 0 0, .slice none 0 0, .slice none 0 0, .int .i64 0], .slice none 0 0, .int .i64 0, .int .i64 0] 8 rfl (World.shaped_of_RefB (by kernel_rfl) (by kernel_rfl)) (by kernel_rfl) (by kernel_rfl) (by kernel_rfl) (door_met os _)) ?_
  intro W base args ds gs before hval0 hW _ _ hL _
  have hval : ∀ (j : Nat) t v, Tryd.f3.params[j]? = some t → args[j]? = some v → Value.okWide Tryd.prog W .any base t v := hval0
  have hW' := hW
  have hlt := hW.lt
  obtain ⟨p, q, hA0, hV, rfl, hfz, hnd⟩ := hW
  have hA : DataW.TrodAll enc Tryd.prog W 0 (fun _ => true) true Tryd.f3.params.toList args.toList ds p := hA0
  obtain ⟨rfl, rfl⟩ := trodVars_none hV
  have hsp := of_laid hL
  rw [Tryd.params3] at hA hval
  have hargs : ∀ (W' : World) (sp : Nat → Bool), Below W.heap.size W W' → (∀ x ∈ p ++ [], sp x.block = true) → DataW.TrodAll enc Tryd.prog W' 0 sp true Tryd.f3.params.toList args.toList ds p := fun W' sp hb hs =>
    trodAll_stays laidOut (by rw [Tryd.params3]; intro t ht; simp only [List.mem_cons, List.not_mem_nil, or_false] at ht; (repeat' rcases ht with rfl | ht) <;> first | exact ⟨by kernel_rfl, of_decide_eq_true (by kernel_rfl)⟩ | (subst ht; exact ⟨by kernel_rfl, of_decide_eq_true (by kernel_rfl)⟩)) hA0 (fun x hx => hb.same (hlt x (by simp [hx]))) (fun x hx => hs x (by simp [hx]))
  obtain ⟨a0, a1, a2, a3, d0, d1, d2, d3, p0, p1, p2, p3, rfl, rfl, rfl, h0, h1, h2, h3⟩ := trodAll_four hA
  obtain ⟨cs, rfl, hcl⟩ : ∃ cs : Array Value, a0 = .agg cs ∧ cs.size = Tryd.prog.cellsOf 26 := by
    have := hval 0 26 a0 rfl rfl
    unfold Value.okWide at this
    rw [Tryd.underlying26] at this
    obtain ⟨cs, e1, e2, _⟩ := this
    exact ⟨cs, e1, e2⟩
  have hc4 : Tryd.prog.cellsOf 26 = 4 := by kernel_rfl
  obtain ⟨n0, h0⟩ := h0
  obtain ⟨v1, v2, v3, c, hcs, hc⟩ := open_code (cs := cs.toList) (by rw [Array.length_toList, hcl, hc4]) h0
  obtain ⟨cs⟩ := cs
  simp only at hcs
  subst hcs
  obtain ⟨x2, rfl, rfl, rfl, w2⟩ := open_int Tryd.underlying3 (hval 2 3 a2 rfl rfl) h2
  obtain ⟨x3, rfl, rfl, rfl, w3⟩ := open_int Tryd.underlying3 (hval 3 3 a3 rfl rfl) h3
  have hv1 := hval 1 27 a1 rfl rfl
  obtain ⟨n1, h1⟩ := h1
  obtain ⟨Ai, ki, input, hci, hin, hinN, hirg⟩ := open_input h1
  obtain ⟨B1, m1, j1, hb1⟩ := okWide_slice Tryd.underlying27 hv1
  have ha1 : a1 = .slice Ai input.length ki := cells_slice hb1 hci
  subst ha1
  have hspec := oneway_spec c (memOf W) v1 v2 v3 hc hsp input Ai ki hin hinN hirg x2 x3
  refine (hspec W (Mem.le_refl _) (Own.nil _ _ _ _)).mono fun e W' ⟨v, I', C', he, hx, _, hv, hI, hC⟩ => ?_
  subst hv
  have hb : Below W.heap.size W W' := Ext.below hx
  refine ⟨_, he, ?_⟩
  exact ⟨_, _, _, [], _, [], hW', trodAll_mk1 (shut_bool Tryd.underlying4 true), hargs W' (fun b => decide (b < W.heap.size)) hb (fun x hx => by simpa using hlt x hx), rfl, hb.frame _, fun h => by cases h⟩
theorem row_holds : Rows.MachineOneWaySaid :=
  OpenClaim.holds_of_wide 3 Tryd.f3 rfl rfl rfl rfl rfl rfl rfl ⟨rfl, rfl, rfl, rfl, rfl⟩ rfl rfl rfl rfl rfl (by kernel_rfl) Tryd.func3 (by kernel_rfl)
    (of_decide_eq_true (by kernel_rfl)) (by unfold Func.isWrapper; first | (rw [if_pos (by decide +kernel)]; kernel_rfl) | (rw [if_neg (by decide +kernel)]; exact ⟨rfl, rfl⟩))
    (fun os started H enc _ => lifted os started H enc)
theorem machineOneWay_holds : Rows.MachineOneWayCardSaid :=
  Claim7.holds_tied_plain_at .later [] [.listed, .data] true (true, "64685ee0358602344606397135cdb713634979017a766077dbfb615e03fe4249") true
    row_holds (fun _ h => by cases h) (by kernel_rfl) (fun _ h => by cases h) machineOneWay_row_tie rfl ⟨rfl, rfl⟩ (by kernel_rfl) rfl
    (fun f fn hf hfn => by
      obtain rfl : f = 3 := Option.some.inj ((show Tryd.prog.funcNamed "loanword/loanwordlaw27.MachineOneWay" = some 3 by kernel_rfl).symm.trans hf) |>.symm
      obtain rfl : fn = Tryd.f3 := (Option.some.inj (Tryd.func3.symm.trans hfn)).symm
      exact ⟨by kernel_rfl, fun j t ht => by
        rw [Tryd.params3] at ht
        have h3 : t ∈ [26, 27, 3, 3] := List.mem_of_getElem? (by simpa using ht)
        simp only [List.mem_cons, List.not_mem_nil, or_false] at h3
        (repeat' rcases h3 with rfl | h3) <;> first | exact (show Tryd.prog.wantsStandIn 26 = false by kernel_rfl) | exact (show Tryd.prog.wantsStandIn 27 = false by kernel_rfl) | exact (show Tryd.prog.wantsStandIn 3 = false by kernel_rfl)⟩)
    (by kernel_rfl)
#print axioms machineOneWay_holds
end Go.Proofs.YtddkkmdbolgnlaaDoor
