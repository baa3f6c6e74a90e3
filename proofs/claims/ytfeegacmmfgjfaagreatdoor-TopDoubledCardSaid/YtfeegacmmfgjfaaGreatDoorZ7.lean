/- The statement itself, and its card: TopDoubled: for every input the law returns true; the input reads as it did. The row, and its card, tied to the program' No condition ahead of any statement but its own. -/
import Derived.Test.YtfeegacmmfgjfaaGreatDoorZ6
import Derived.Test.YtfeegacmmfgjfaaGreatDoorRows
import Derived.Test.YtfeegacmmfgjfaaGreatDoorCards
import Derived.Test.YtfeegacmmfgjfaaGreatDoorTie
import Derived.ProofKit
import Derived.LaidMore
import Derived.OpenShut
import Derived.Stop.Joined
import Derived.Carry
import Derived.Lib.LaidTab
import Derived.Stop.LaidErr
import Derived.SevenTiedAt
set_option maxHeartbeats 4000000
/-!  TopDoubled: for every input the law returns true; the input reads as it did. The row, and its card, tied to the program's text. -/
set_option linter.unusedVariables false
namespace Go.Proofs.YtfeegacmmfgjfaaGreatDoor
open Go Go.ChangeShapes Go.WideShapes Go.ChangeAt Go.RowKit Go.Proofs.YtfeegacmmfgjfaaGreatDoorX Go.Proofs.YtfeegacmmfgjfaaGreatDoorM
theorem own : ownKnob Tryz.prog.godebug = none := by kernel_rfl
theorem laidOut : laidOutB Tryz.prog = true := by kernel_rfl
def rowLaid : List (String × DataW Unit) := [("math/bits.deBruijn32tab", Rows.laid_math_bits_deBruijn32tab), ("math/bits.deBruijn64tab", Rows.laid_math_bits_deBruijn64tab), ("internal/strconv.uint64pow10", Rows.laid_internal_strconv_uint64pow10)]
theorem pow_tab : (Rows.laid_internal_strconv_uint64pow10 : DataW Unit) = Lib.tabData .u64 Lib.pow10Tab := by
  kernel_rfl
theorem gPow : Tryz.prog.globalNamed "internal/strconv.uint64pow10" = some 1 := by kernel_rfl
theorem gPowT : (Tryz.prog.globals[1]?).map (·.type) = some 210 := by kernel_rfl
theorem uPow : Tryz.prog.underlying 210 = some (.array 20 124) := by kernel_rfl
theorem uPowE : Tryz.prog.underlying 124 = some (.int .u64) := by kernel_rfl
theorem c124 : Tryz.prog.cellsOf 124 = 1 := by kernel_rfl
theorem c210 : Tryz.prog.cellsOf 210 = 20 := by kernel_rfl
theorem laid_of {W : World} (h : laidMetH Tryz.prog rowLaid W) : Laid W := by
  rw [MakeChecks.laidMetH_plain _ _ _ (by kernel_rfl)] at h
  have h2 := laidMet.tail (laidMet.tail (show laidMet Tryz.prog (_ :: _ :: _) W from h))
  rw [show (("internal/strconv.uint64pow10", Rows.laid_internal_strconv_uint64pow10) : String × DataW Unit) = ("internal/strconv.uint64pow10", Lib.tabData .u64 Lib.pow10Tab) from Prod.ext rfl pow_tab] at h2
  exact Lib.tabIs_of_head gPow gPowT uPow uPowE c124 c210 h2
theorem door_met (os : Os) (args : Array Value) : laidMetH Tryz.prog rowLaid ((World.doorLaid Tryz.prog 24 os).forCall (fun _ _ => 0) ⟨#[], args, []⟩).memory :=
  laidMetH_of_parts3 (fuel := 8) (laidMet_of_run' 8 (by kernel_rfl) (by kernel_rfl)) (by kernel_rfl) (by kernel_rfl)
theorem cc22 : Tryz.prog.cellsOf 25 = 1 := by kernel_rfl
theorem cc25 : Tryz.prog.cellsOf 51 = 2 := by kernel_rfl
theorem cc9 : Tryz.prog.cellsOf 9 = 1 := by kernel_rfl
theorem tkTok : TrK Tryz.prog 51 kTok (fun y => y.1.length ≤ 9223372036854775807 ∧ y.2.length ≤ 9223372036854775807) :=
  TrK.two Tryz.underlying51 cc25 rfl rfl Tryz.underlying9 Tryz.underlying9 cc9 cc9
theorem tkToks : TrK Tryz.prog 22 (kSl (kSl kTok)) (fun l => ∀ s ∈ l, ∀ t ∈ s, t.1.length ≤ 9223372036854775807 ∧ t.2.length ≤ 9223372036854775807) :=
  TrK.sl Tryz.underlying22 cc22 (TrK.sl Tryz.underlying25 cc25 tkTok)
theorem tkStrs : TrK Tryz.prog 23 (kSl kStr) (fun l => ∀ s ∈ l, s.length ≤ 9223372036854775807) :=
  TrK.sl Tryz.underlying23 cc9 (TrK.strg Tryz.underlying9)
set_option maxRecDepth 100000 in
theorem lifted (os : Os) (started : os.Started) (H : Type) (enc : TypeId × Value → H) :
    ReturnsInHanded {} Tryz.checked os 3 .any (fun w args => (Rows.topDoubledSpec.pre enc Tryz.prog Tryz.f3 [] false w args ∧ laidMetH Tryz.prog rowLaid w) ∧ sizedMet enc Tryz.prog Tryz.f3 (OpenSpec.ofChange Rows.topDoubledSpec) false w args)
      (Rows.topDoubledSpec.post enc Tryz.prog Tryz.f3 false true false false) := by
  refine returnsInHanded_of_change_and (C := Tryz.checked) (X := fun w _ => laidMetH Tryz.prog rowLaid w) (fun _ _ _ hh h => h.of_heap hh) own started (by kernel_rfl) Tryz.func3
    (ChangeSpec.witness_shaped (enc := enc) (C := Tryz.checked) (os := os) (X := fun w _ => laidMetH Tryz.prog rowLaid w) false (World.doorLaid Tryz.prog 24 os) #[.slice none 0 0, .string ⟨#[]⟩, .slice none 0 0] 8 rfl (World.shaped_of_RefB (by kernel_rfl) (by kernel_rfl)) (by kernel_rfl) (by kernel_rfl) (by kernel_rfl) (door_met os _)) ?_
  intro W base args ds gs before hval0 hW _ _ hL _
  have hval : ∀ (j : Nat) t v, Tryz.f3.params[j]? = some t → args[j]? = some v → Value.okWide Tryz.prog W .any base t v := hval0
  have hW' := hW
  obtain ⟨p, q, hA0, hV, rfl, hfz, hnd⟩ := hW
  have hA : DataW.TrodAll enc Tryz.prog W 0 (fun _ => true) true Tryz.f3.params.toList args.toList ds p := hA0
  rw [Tryz.params3] at hA hval
  obtain ⟨v0, v1, v2, d0, d1, d2, p0, p1, p2, rfl, rfl, rfl, h0, h1, h2⟩ := trodAll_three hA
  obtain ⟨rfl, rfl⟩ := trodVars_none hV
  have hL1 := laid_of hL
  have h0k := h0
  have h1k := h1
  have h2k := h2
  obtain ⟨fu0, hf0⟩ := h0
  obtain ⟨fu1, hf1⟩ := h1
  obtain ⟨fu2, hf2⟩ := h2
  obtain ⟨l, ⟨u0, e0, r0⟩, b0⟩ := tkToks H enc W fu0 _ _ hf0
  obtain ⟨ks, e1, b1⟩ := (TrK.strg (P := Tryz.prog) Tryz.underlying9) H enc W fu1 _ _ hf1
  obtain ⟨ws, ⟨u2, e2, r2⟩, b2⟩ := tkStrs H enc W fu2 _ _ hf2
  obtain ⟨A, n, c, rfl⟩ := okWide_slice Tryz.underlying22 (hval 0 22 v0 rfl rfl)
  obtain ⟨A', n', c', rfl⟩ := okWide_slice Tryz.underlying23 (hval 2 23 v2 rfl rfl)
  simp only [Value.cells, List.cons.injEq, and_true] at e0 e2
  subst e0 e2
  have e1' : v1 = .string (str ks) := by
    obtain ⟨s, hs, _⟩ := Go.ChangeMaps.open_string Tryz.underlying9 (hval 1 9 v1 rfl rfl) h1k
    subst hs
    have : [Value.string s] = [Value.string (str ks)] := e1
    simpa using this
  subst e1'
  clear hA0 hval0
  simp only [List.append_nil] at hW'
  obtain ⟨_, hcall⟩ := topDoubled_all (Old W) (Old W) A A' n c n' c' l ks ws W hL1 r0 b0 r2 b2 b1
  refine hcall.mono ?_
  rintro e W' ⟨v, rfl, rfl, hE⟩
  have hlt : ∀ x ∈ p0 ++ p1 ++ p2, x.block < W.heap.size := fun x hx => by simpa using hW'.lt x (by simpa using hx)
  have q0 := Below.trod laidOut (by kernel_rfl) (of_decide_eq_true (by kernel_rfl)) h0k hE.below (fun x hx => hlt x (by simp [hx]))
  have q1 := Below.trod laidOut (by kernel_rfl) (of_decide_eq_true (by kernel_rfl)) h1k hE.below (fun x hx => hlt x (by simp [hx]))
  have q2 := Below.trod laidOut (by kernel_rfl) (of_decide_eq_true (by kernel_rfl)) h2k hE.below (fun x hx => hlt x (by simp [hx]))
  refine ⟨_, rfl, _, _, _, [], p0 ++ (p1 ++ p2), [], hW', ?_, ?_, ?_, hE.below.frame _, fun h => by cases h⟩
  · exact trodAll_mk1 (shut_bool Tryz.underlying4 true)
  · exact trodAll_mk3 q0 q1 q2
  · rfl
theorem topDoubled_holds : Rows.TopDoubledSaid :=
  OpenClaim.holds_of_wide 3 Tryz.f3 rfl rfl rfl rfl rfl rfl rfl ⟨rfl, rfl, rfl, rfl, rfl⟩ rfl rfl rfl rfl rfl (by kernel_rfl) Tryz.func3 (by kernel_rfl)
    (of_decide_eq_true (by kernel_rfl)) (by unfold Func.isWrapper; rw [if_neg (of_decide_eq_false (by kernel_rfl))]; exact ⟨rfl, rfl⟩)
    (fun os started H enc _ => lifted os started H enc)
theorem topDoubled_card : Rows.TopDoubledCardSaid :=
  Claim7.holds_tied_plain_at .later [] [.data, .data, .data] true (true, "0f52e672ff9cdbe451c9dc0c2ba3927eb2c60f092fd86d46bb3749342eca760a") true
    topDoubled_holds (fun _ h => by cases h) (by kernel_rfl) (fun _ h => by cases h) topDoubled_row_tie rfl ⟨rfl, rfl⟩ (by kernel_rfl) rfl
    (fun f fn hf hfn => by
      obtain rfl : f = 3 := Option.some.inj ((show Tryz.prog.funcNamed "abugida/abugidatop.TopDoubled" = some 3 by kernel_rfl).symm.trans hf) |>.symm
      obtain rfl : fn = Tryz.f3 := (Option.some.inj (Tryz.func3.symm.trans hfn)).symm
      exact ⟨by kernel_rfl, fun j t ht => by
        rw [Tryz.params3] at ht
        have hm : t ∈ [22, 9, 23] := by simpa using Array.mem_of_getElem? ht
        have hall : ([22, 9, 23].all fun u => !Tryz.prog.wantsStandIn u) = true := by kernel_rfl
        exact (show Tryz.prog.wantsStandIn t = false by simpa using List.all_eq_true.1 hall t hm)⟩)
    (by kernel_rfl)
#print axioms topDoubled_card
end Go.Proofs.YtfeegacmmfgjfaaGreatDoor
