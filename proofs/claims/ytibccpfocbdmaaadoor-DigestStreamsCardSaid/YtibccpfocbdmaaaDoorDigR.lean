/- The digests: the rows: what the listed tables give, and the closed statement. -/
import Derived.Test.YtibccpfocbdmaaaDoorRows
import Derived.Test.YtibccpfocbdmaaaDoorDigN
import Derived.ProofKit
import Derived.LaidMore
import Derived.OpenShut
import Derived.Stop.Joined
set_option linter.unusedVariables false
namespace Go.Proofs.YtibccpfocbdmaaaDoor
open Go.ChangeShapes Go.WideShapes Go.ChangeAt Go.WideMaps Go.WideElems Go.RowKit Go.Proofs.YtibccpfocbdmaaaDoor.Eng Go.Proofs.YtibccpfocbdmaaaDoor.Spec
set_option maxRecDepth 100000

theorem own : ownKnob Tryd.prog.godebug = none := by kernel_rfl
theorem laidOut : laidOutB Tryd.prog = true := by kernel_rfl
theorem g0 : Tryd.prog.globalNamed "chirograph/digest.k256" = some 0 := by kernel_rfl
theorem g1 : Tryd.prog.globalNamed "chirograph/digest.k512" = some 1 := by kernel_rfl
theorem t0 : (Tryd.prog.globals[0]?).map (·.type) = some 62 := by kernel_rfl
theorem t1 : (Tryd.prog.globals[1]?).map (·.type) = some 64 := by kernel_rfl
def laid2 : List (String × DataW Unit) := [("chirograph/digest.k256", Rows.laid_chirograph_digest_k256), ("chirograph/digest.k512", Rows.laid_chirograph_digest_k512)]
theorem door_met (os : Os) (args : Array Value) : laidMetH Tryd.prog laid2 ((World.doorLaid Tryd.prog 400 os).forCall (fun _ _ => 0) ⟨#[], args, []⟩).memory :=
  laidMetH_of_parts3 (fuel := 8) (laidMet_of_run' 8 (by kernel_rfl) (by kernel_rfl)) (by kernel_rfl) (by kernel_rfl)
theorem d0 : (Rows.laid_chirograph_digest_k256 : DataW Unit) = .agg (k256.map fun z => .lit (.int .u32 z)) := by kernel_rfl
theorem d1 : (Rows.laid_chirograph_digest_k512 : DataW Unit) = .agg (k512.map fun z => .lit (.int .u64 z)) := by kernel_rfl
/-- A table's cells. -/
theorem tab_cells {H : Type} {enc : TypeId × Value → H} {P : Program} {w : World} {k : IntKind} {t e n base fuel : Nat} {spare : Nat → Bool} {held : Bool} {cs : List Value} {l : List Int} {ps : List MemPlace} (ht : P.underlying t = some (.array n e)) (he : P.underlying e = some (.int k)) (hc : P.cellsOf e = 1)
    (h : DataW.trod enc P w base spare held fuel t cs = some (.agg (l.map fun z => .lit (.int k z)), ps)) {j : Nat} {v : Value} (hv : (nums k l)[j]? = some v) : cs[j]? = some v := by
  obtain ⟨xs, m, rfl, hx, hlen, hn, hel⟩ := DataW.trod_array ht h
  simp only [Prod.mk.injEq, DataW.agg.injEq] at hx
  have hll : l.length = n := by have := congrArg List.length hx.1; simpa [hn] using this
  have hj : j < l.length := by
    have := (List.getElem?_eq_some_iff.1 hv).1
    simpa [nums_length] using this
  have hjx : j < xs.length := by omega
  have h1 := hel j (by omega)
  rw [List.getElem?_eq_getElem hjx, hc, Nat.mul_one] at h1
  obtain ⟨z, e1, e2, _⟩ := DataW.trod_int he h1
  have h3 : l[j] = z := by
    have := congrArg (fun q => q[j]?) hx.1
    simp only [List.getElem?_map, List.getElem?_eq_getElem hjx, List.getElem?_eq_getElem hj, Option.map_some, e2, Option.some.injEq, DataW.lit.injEq, Lit.int.injEq, true_and] at this
    exact this
  have h4 : cs[j]? = some (.int k z) := by
    have := congrArg (fun q => q[0]?) e1
    simpa using this
  rw [h4, ← hv, nums_get hj]
  simp [List.getD_eq_getElem?_getD, hj, h3]
theorem of_laid {W : World} (h : laidMetH Tryd.prog laid2 W) (h2 : 1 < W.heap.size) : Tb W := by
  rw [MakeChecks.laidMetH_plain _ _ _ (by kernel_rfl)] at h
  obtain ⟨ps, ⟨y0, ty0, cs0, f0, p0, q0, hg0, ht0, hv0, hd0, ⟨y1, ty1, cs1, f1, p1, q1, hg1, ht1, hv1, hd1, _, _⟩, _⟩, _, _⟩ := h
  obtain rfl := Option.some.inj (g0.symm.trans hg0)
  obtain rfl := Option.some.inj (g1.symm.trans hg1)
  obtain rfl := Option.some.inj (t0.symm.trans ht0)
  obtain rfl := Option.some.inj (t1.symm.trans ht1)
  rw [d0] at hd0
  rw [d1] at hd1
  refine ⟨fun j v hj => ?_, fun j v hj => ?_, h2⟩
  · rw [Addr.add_lit, Nat.zero_add, World.var?_cell hg0 hv0 j, ← Array.getElem?_toList]
    exact tab_cells Tryd.underlying62 Tryd.underlying48 (by kernel_rfl) hd0 hj
  · rw [Addr.add_lit, Nat.zero_add, World.var?_cell hg1 hv1 j, ← Array.getElem?_toList]
    exact tab_cells Tryd.underlying64 Tryd.underlying50 (by kernel_rfl) hd1 hj
theorem fr_below {W W' : World} (f : Fr W W' nob) : Below W.heap.size W W' := f.below (Nat.le_refl _) fun _ h => h.elim
/-- The blocks of the package's own variables are there. -/
theorem two_of_laid {W : World} (h : laidMetH Tryd.prog laid2 W) : 1 < W.heap.size := by
  rw [MakeChecks.laidMetH_plain _ _ _ (by kernel_rfl)] at h
  obtain ⟨ps, ⟨y0, ty0, cs0, f0, p0, q0, hg0, ht0, hv0, hd0, ⟨y1, ty1, cs1, f1, p1, q1, hg1, ht1, hv1, hd1, _, _⟩, _⟩, _, _⟩ := h
  simp only [World.var?, hg1, Option.bind_some] at hv1
  obtain rfl := Option.some.inj (g1.symm.trans hg1)
  cases hh : W.heap[1]? with
  | none => rw [hh] at hv1; simp at hv1
  | some o => exact (Array.getElem?_eq_some_iff.1 hh).1
theorem known_lifted (os : Os) (started : os.Started) (H : Type) (enc : TypeId × Value → H) :
    ReturnsInHanded {} Tryd.checked os 5 .any (fun w args => (Rows.digestKnownSpec.pre enc Tryd.prog Tryd.f5 [] false w args ∧ laidMetH Tryd.prog laid2 w) ∧ sizedMet enc Tryd.prog Tryd.f5 (OpenSpec.ofChange Rows.digestKnownSpec) false w args)
      (Rows.digestKnownSpec.post enc Tryd.prog Tryd.f5 false true false false) := by
  refine returnsInHanded_of_change_and (C := Tryd.checked) (X := fun w _ => laidMetH Tryd.prog laid2 w) (fun _ _ _ hh h => h.of_heap hh) own started (by kernel_rfl) Tryd.func5
    (ChangeSpec.witness_shaped (enc := enc) (C := Tryd.checked) (os := os) (X := fun w _ => laidMetH Tryd.prog laid2 w) false (World.doorLaid Tryd.prog 400 os) #[] 8 rfl (World.shaped_of_RefB (by kernel_rfl) (by kernel_rfl)) (by kernel_rfl) (by kernel_rfl) (by kernel_rfl) (door_met os _)) ?_
  intro W base args ds gs before hval0 hW _ _ hL _
  have hW' := hW
  obtain ⟨p, q, hA0, hV, rfl, hfz, hnd⟩ := hW
  have hA : DataW.TrodAll enc Tryd.prog W 0 (fun _ => true) true Tryd.f5.params.toList args.toList ds p := hA0
  rw [Tryd.params5] at hA
  obtain ⟨ha, rfl, rfl⟩ := trodAll_nil hA
  obtain ⟨rfl, rfl⟩ := trodVars_none hV
  have hargs : args = #[] := by cases args; simpa using ha
  subst hargs
  clear hA0 hval0
  simp only [List.append_nil] at hW'
  refine (known_spec (of_laid hL (two_of_laid hL)) (fun v w' => v = .bool true ∧ Fr W w' nob) (fun w' f => ⟨rfl, f⟩)).mono fun e W' he => ?_
  obtain ⟨v, rfl, rfl, f⟩ := he
  have bel := fr_below f
  exact ⟨_, rfl, _, _, _, [], [], [], hW', trodAll_mk1 (shut_bool Tryd.underlying4 _), hA, hV, bel.frame _, fun h => by cases h⟩
theorem digestKnown_holds : Rows.DigestKnownSaid :=
  OpenClaim.holds_of_wide 5 Tryd.f5 rfl rfl rfl rfl rfl rfl rfl ⟨rfl, rfl, rfl, rfl, rfl⟩ rfl rfl rfl rfl rfl (by kernel_rfl) Tryd.func5 (by kernel_rfl)
    (of_decide_eq_true (by kernel_rfl)) (by unfold Func.isWrapper; first | (rw [if_pos (by decide +kernel)]; kernel_rfl) | (rw [if_neg (by decide +kernel)]; exact ⟨rfl, rfl⟩))
    (fun os started H enc _ => known_lifted os started H enc)
end Go.Proofs.YtibccpfocbdmaaaDoor
