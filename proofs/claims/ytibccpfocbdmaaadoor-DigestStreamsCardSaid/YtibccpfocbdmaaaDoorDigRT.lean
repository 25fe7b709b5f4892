/- DigestStreams: the row and the tied card: whatever the algorithm and the lists of bytes, a digest under way tells at each moment what the document says; no condition. -/
import Derived.Test.YtibccpfocbdmaaaDoorDigR
import Derived.Test.YtibccpfocbdmaaaDoorRowL
import Derived.Test.YtibccpfocbdmaaaDoorReS
import Derived.Test.YtibccpfocbdmaaaDoorCards
import Derived.Test.YtibccpfocbdmaaaDoorTie
import Derived.SevenTiedAt
namespace Go.Proofs.YtibccpfocbdmaaaDoor
open Go
set_option maxRecDepth 100000
theorem stand_of {P : Program} {fn : Func} (h : (fn.params.toList.all fun t => !P.wantsStandIn t) = true) : ∀ (j : Nat) t, fn.params[j]? = some t → P.wantsStandIn t = false := by
  intro j t hj
  have := List.all_eq_true.1 h t (by rw [Array.mem_toList_iff]; exact Array.mem_of_getElem? hj)
  simpa using this
open Go Go.ChangeShapes Go.WideShapes Go.ChangeAt Go.WideMaps Go.WideElems Go.RowKit Go.Proofs.YtibccpfocbdmaaaDoor.Eng Go.Proofs.YtibccpfocbdmaaaDoor.Spec
theorem cells_u8 : Tryd.prog.cellsOf 5 = 1 := by kernel_rfl
theorem cells_l8 : Tryd.prog.cellsOf 25 = 1 := by kernel_rfl
theorem digestStreams_walk {H : Type} {enc : TypeId × Value → H} (W : World) (base : Nat) (args : Array Value) (ds : List (DataW H)) (p : List MemPlace) (hA0 : DataW.TrodAll enc Tryd.prog W 0 (fun _ => true) true Tryd.f7.params.toList args.toList ds p)
    (hval : ∀ (j : Nat) t v, Tryd.f7.params[j]? = some t → args[j]? = some v → Value.okWide Tryd.prog W .any base t v) (hz : (DataW.weightsEach Tryd.prog Tryd.f7.params.toList ds).all (· ≤ reachBytes) = true) (hL : laidMetH Tryd.prog laid2 W) :
    callK Tryd.prog 7 args.toList W fun v w' => v = .bool true ∧ Fr W w' nob := by
  have hA : DataW.TrodAll enc Tryd.prog W 0 (fun _ => true) true Tryd.f7.params.toList args.toList ds p := hA0
  rw [Tryd.params7] at hA hval
  obtain ⟨v0, v1, d0, d1, p0, p1, rfl, rfl, rfl, h0, h1⟩ := trodAll_two hA
  obtain ⟨n0, rfl, -, -, -⟩ := open_int Tryd.underlying3 (hval 0 3 v0 rfl rfl) h0
  obtain ⟨A, c, l, hs, rfl, hc, h63, hr, hn, he, hb⟩ := Row.open_ll Tryd.underlying22 cells_l8 Tryd.underlying25 Tryd.underlying5 cells_u8 (hval 1 22 v1 rfl rfl) h1
  exact streams_spec (of_laid hL (two_of_laid hL)) n0 ⟨hr, hn, he⟩ rfl (by unfold maxLen at h63; omega) (fun p hp x hx => Row.wf_u8 (hb p hp x hx)) _ fun w' f => ⟨rfl, f⟩
theorem digestStreams_lifted (os : Os) (started : os.Started) (H : Type) (enc : TypeId × Value → H) :
    ReturnsInHanded {} Tryd.checked os 7 .any (fun w args => (Rows.digestStreamsSpec.pre enc Tryd.prog Tryd.f7 [] false w args ∧ laidMetH Tryd.prog laid2 w) ∧ sizedMet enc Tryd.prog Tryd.f7 (OpenSpec.ofChange Rows.digestStreamsSpec) false w args)
      (Rows.digestStreamsSpec.post enc Tryd.prog Tryd.f7 false true false false) :=
  Row.lifted_of (C := Tryd.checked) (X := fun w _ => laidMetH Tryd.prog laid2 w) (fun _ _ _ hh h => h.of_heap hh) own started (by kernel_rfl) Tryd.func7
    (ChangeSpec.witness_shaped (enc := enc) (C := Tryd.checked) (os := os) (X := fun w _ => laidMetH Tryd.prog laid2 w) false (World.doorLaid Tryd.prog 400 os) #[.int .i64 0, .slice none 0 0] 8 rfl (World.shaped_of_RefB (by kernel_rfl) (by kernel_rfl)) (by kernel_rfl) (by kernel_rfl) (by kernel_rfl) (door_met os _))
    laidOut (tb := 4) (by kernel_rfl) Tryd.underlying4 rfl (of_decide_eq_true (by kernel_rfl)) (fun ds h => by rw [show Tryd.f7.params.size = 2 by kernel_rfl] at h; obtain ⟨a, b, rfl⟩ := Row.len2 h; exact ⟨rfl, rfl, rfl⟩)
    (fun W base args ds p hA hval hz hL => digestStreams_walk (enc := enc) W base args ds p hA hval hz hL)
theorem digestStreams_holds : Rows.DigestStreamsSaid :=
  OpenClaim.holds_of_wide 7 Tryd.f7 rfl rfl rfl rfl rfl rfl rfl ⟨rfl, rfl, rfl, rfl, rfl⟩ rfl rfl rfl rfl rfl (by kernel_rfl) Tryd.func7 (by kernel_rfl)
    (of_decide_eq_true (by kernel_rfl)) (by unfold Func.isWrapper; first | (rw [if_pos (by decide +kernel)]; kernel_rfl) | (rw [if_neg (by decide +kernel)]; exact ⟨rfl, rfl⟩))
    (fun os started H enc _ => digestStreams_lifted os started H enc)
theorem digestStreams_card : Rows.DigestStreamsCardSaid :=
  Claim7.holds_tied_plain_at .later [] [.data, .data] true (true, "661b36e8910ca13b7c64b750c1e6a110c8bf24db9e400acd8f27436c7f004418") false
    digestStreams_holds (fun _ h => by cases h) (by kernel_rfl) (fun _ h => by cases h) digestStreams_row_tie rfl ⟨rfl, rfl⟩ (by kernel_rfl) rfl
    (fun f fn hf hfn => by
      obtain rfl : f = 7 := Option.some.inj ((show Tryd.prog.funcNamed "chirograph/chirographlaw02.DigestStreams" = some 7 by kernel_rfl).symm.trans hf) |>.symm
      obtain rfl : fn = Tryd.f7 := (Option.some.inj (Tryd.func7.symm.trans hfn)).symm
      exact ⟨by kernel_rfl, stand_of (by kernel_rfl)⟩)
    (by kernel_rfl)
end Go.Proofs.YtibccpfocbdmaaaDoor
