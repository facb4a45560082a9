/- RedoAgain -/
import Derived.Test.YtpinhnikemamjaaGreatDoorRows
import Derived.Test.YtpinhnikemamjaaGreatDoorCards
import Derived.Test.YtpinhnikemamjaaGreatDoorTie
import Derived.ProofKit
import Derived.OpenShut
import Derived.SevenTiedAt
import Derived.Test.YtpinhnikemamjaaGreatDoorR23
import Derived.Test.YtpinhnikemamjaaGreatDoorR36
set_option linter.all false
namespace Go.Proofs.YtpinhnikemamjaaGreatDoor.redoAgainLaw
open Go.Proofs.Q
open Go.ChangeShapes Go.WideShapes Go.ChangeAt Go.RowKit Go.Sl
open Go.ChangeMaps (open_string shut_string)
theorem own : ownKnob Tryz.prog.godebug = none := by kernel_rfl
theorem w1K : laidOutB Tryz.prog = true := by kernel_rfl
theorem prm : (Tryz.f8.params.toList.all fun t => Tryz.prog.readableRec t && decide (t < Tryz.prog.types.size)) = true := by kernel_rfl
set_option maxRecDepth 100000 in
theorem j1G (H : Type) (enc : TypeId × Value → H) (W : World) (base : Nat) (args : Array Value) (ds gs : List (DataW H)) (before : List MemPlace)
    (hval : ∀ (j : Nat) t v, Tryz.f8.params[j]? = some t → args[j]? = some v → Value.okWide Tryz.prog W .any base t v)
    (hW : DataW.Whole enc Tryz.prog Tryz.f8.params.toList Rows.redoAgainSpec.vars false W args.toList ds gs before) (hsh : W.ShapedOpen Tryz.prog) (hL : laidMetH Tryz.prog Rows.redoAgainRow.laid W) :
    Calls Tryz.prog 8 args W fun e W' => ∃ v, e = .returned v ∧ Rows.redoAgainSpec.post enc Tryz.prog Tryz.f8 false true false false W args v W' := by
  rw [MakeChecks.laidMetH_plain _ _ _ (by kernel_rfl)] at hL
  have hS := w2C hL hsh
  have hW' := hW
  obtain ⟨p, q, hA0, hV, rfl, hfz, hnd⟩ := hW
  have hA : DataW.TrodAll enc Tryz.prog W 0 (fun _ => true) true Tryz.f8.params.toList args.toList ds p := hA0
  rw [Tryz.params8] at hA hval
  obtain ⟨v0, vs0, d0, ds0, p0, q0, e0, rfl, rfl, h0, r0⟩ := trodAll_cons hA
  obtain ⟨rfl, rfl, rfl⟩ := trodAll_nil r0
  obtain rfl : args = #[v0] := by cases args; simp_all
  obtain ⟨rfl, rfl⟩ := trodVars_none hV
  have w0 : w1I W v0 := h2X Tryz.underlying68 Tryz.underlying72 (by kernel_rfl) ⟨rfl, by kernel_rfl, Tryz.underlying3⟩ ⟨rfl, by kernel_rfl, Tryz.underlying3⟩ ⟨rfl, by kernel_rfl, Tryz.underlying3⟩ ⟨rfl, by kernel_rfl, Tryz.underlying3⟩ ⟨rfl, by kernel_rfl, Tryz.underlying9⟩ (hval 0 68 v0 rfl rfl) h0
  clear hA0
  refine (g2H (z2D W hS v0 w0)).mono fun e W' ⟨he, hb⟩ => ?_
  subst he
  exact ⟨_, rfl, l2P hW' rfl hb w1K prm rfl Tryz.underlying4 rfl⟩
set_option maxRecDepth 100000 in
theorem l2F (os : Os) (started : os.Started) (H : Type) (enc : TypeId × Value → H) :
    ReturnsInHanded {} Tryz.checked os 8 .any (fun w args => (Rows.redoAgainSpec.pre enc Tryz.prog Tryz.f8 Rows.redoAgainRow.domain false w args ∧ laidMetH Tryz.prog Rows.redoAgainRow.laid w) ∧ sizedMet enc Tryz.prog Tryz.f8 (OpenSpec.ofChange Rows.redoAgainSpec) false w args)
      (Rows.redoAgainSpec.post enc Tryz.prog Tryz.f8 false true false false) := by
  refine w2D (C := Tryz.checked) own started (by kernel_rfl) Tryz.func8
    (ChangeSpec.witness_shaped (enc := enc) (C := Tryz.checked) (os := os) (X := fun w _ => laidMetH Tryz.prog Rows.redoAgainRow.laid w) false (World.laidAll Tryz.prog os Rows.redoAgainRow.laid) #[.slice none 0 0] 8 (World.laidAll_os _ _ _) (World.shaped_of_ZipB (by kernel_rfl) (by kernel_rfl)) (by kernel_rfl) (by kernel_rfl) (by kernel_rfl)
      (by rw [MakeChecks.laidMetH_plain _ _ _ (by kernel_rfl)]; exact laidMet_laidAll _ (by kernel_rfl) (by kernel_rfl))) ?_
  intro W base args ds gs before hval hW hsh hL
  exact j1G H enc W base args ds gs before hval hW hsh hL
set_option maxRecDepth 100000 in
theorem c0 : (Rows.redoAgainRow.inPlace == Tryz.prog.inPlace 8) = true := by kernel_rfl
theorem c1 : (Rows.redoAgainRow.unfollowed == Tryz.prog.unfollowed 8) = true := by kernel_rfl
theorem c2 : (Rows.redoAgainRow.recurses == Tryz.prog.recurses 8) = true := by kernel_rfl
theorem c3 : (Rows.redoAgainRow.named == Tryz.prog.varsNamed 8) = true := by kernel_rfl
theorem c4 : (Rows.redoAgainRow.lifted == Tryz.prog.liftsFinal) = true := by kernel_rfl
theorem c5 : (Tryz.prog.make == some Rows.redoAgainRow.make) = true := by kernel_rfl
theorem c6 : (Tryz.prog.mayEnter) = true := by kernel_rfl
theorem c7 : (laidOutB Tryz.prog) = true := by kernel_rfl
theorem c8 : (Tryz.prog.stopsHeard) = true := by kernel_rfl
theorem c9 : (mapsRowed Tryz.prog) = true := by kernel_rfl
theorem a3A : joinedFacts Tryz.prog 8 Tryz.f8 Rows.redoAgainSpec Rows.redoAgainRow = true := by
  unfold joinedFacts
  simp only [c0, c1, c2, c3, c4, c5, c6, c7, c8, c9, Bool.and_true, Bool.true_and]
  kernel_rfl
theorem a3C : Tryz.prog.funcNamed Rows.redoAgainRow.func = some 8 := by kernel_rfl
theorem a3D : Tryz.f8.isInstance Tryz.prog Rows.redoAgainRow.origin Rows.redoAgainRow.targs := of_decide_eq_true (by kernel_rfl)
theorem a3E : Tryz.f8.isWrapper Tryz.prog Rows.redoAgainRow.wrapper Rows.redoAgainRow.mainSum := by unfold Func.isWrapper; first | (rw [if_pos (by decide +kernel)]; kernel_rfl) | (rw [if_neg (by decide +kernel)]; exact ⟨rfl, rfl⟩)
set_option maxRecDepth 100000 in
theorem over : Rows.redoAgainRow.holds Tryz.pinned (OpenSpec.ofChange Rows.redoAgainSpec) :=
  OpenClaim.holds_of_wide (p := Tryz.pinned) (s := Rows.redoAgainSpec) (c := Rows.redoAgainRow) 8 Tryz.f8 rfl rfl rfl rfl rfl rfl rfl ⟨rfl, rfl, rfl, rfl, rfl⟩ rfl rfl rfl rfl rfl a3C Tryz.func8 a3A a3D a3E
    (fun os started H enc _ => l2F os started H enc)
theorem p0 : Rows.redoAgainRow.wfByText (OpenSpec.ofChange Rows.redoAgainSpec) = true := by kernel_rfl
theorem p1 : Tryz.prog.mainIs = some (((true, "3614977395c70e75ba1bee2a421b0754ad9b62e352e2b7488d710f66bdc691da")).1, ((true, "3614977395c70e75ba1bee2a421b0754ad9b62e352e2b7488d710f66bdc691da")).2.toList) := by kernel_rfl
theorem p2 : true = Tryz.prog.looks [] := by kernel_rfl
theorem p3 : ([68].all fun u => !Tryz.prog.wantsStandIn u) = true := by kernel_rfl
theorem p4 : false = Rows.redoAgainRow.goesBy Tryz.prog := by kernel_rfl
theorem p5 : Tryz.prog.funcNamed "stereobate/stereobatelaw17.RedoAgain" = some 8 := by kernel_rfl
set_option maxRecDepth 100000 in
theorem proved : Rows.RedoAgainCardSaid :=
  Claim7.holds_tied_plain_at .later [] [.data, .data, .pinned] true (true, "3614977395c70e75ba1bee2a421b0754ad9b62e352e2b7488d710f66bdc691da") true
    over (fun _ h => by cases h) p0 (fun _ h => by cases h) redoAgain_row_tie rfl ⟨rfl, rfl⟩ p1 rfl
    (fun f fn hf hfn => by
      obtain rfl : f = 8 := Option.some.inj (p5.symm.trans hf) |>.symm
      obtain rfl : fn = Tryz.f8 := (Option.some.inj (Tryz.func8.symm.trans hfn)).symm
      exact ⟨p2, fun j t ht => by
        rw [Tryz.params8] at ht
        have hm : t ∈ [68] := by simpa using Array.mem_of_getElem? ht
        exact (show Tryz.prog.wantsStandIn t = false by simpa using List.all_eq_true.1 p3 t hm)⟩)
    p4
end Go.Proofs.YtpinhnikemamjaaGreatDoor.redoAgainLaw
