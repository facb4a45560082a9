/- CoreSpace -/
import Derived.Test.YtpinhnikemamjaaGreatDoorRows
import Derived.Test.YtpinhnikemamjaaGreatDoorCards
import Derived.Test.YtpinhnikemamjaaGreatDoorTie
import Derived.ProofKit
import Derived.OpenShut
import Derived.SevenTiedAt
import Derived.Test.YtpinhnikemamjaaGreatDoorS23
import Derived.Test.YtpinhnikemamjaaGreatDoorS36
set_option linter.all false
namespace Go.Proofs.YtpinhnikemamjaaGreatDoor.coreSpaceLaw
open Go.Proofs.Q
open Go.ChangeShapes Go.WideShapes Go.ChangeAt Go.RowKit Go.Sl
open Go.ChangeMaps (open_string shut_string)
theorem own : ownKnob Tryz.prog.godebug = none := by kernel_rfl
theorem y1D : laidOutB Tryz.prog = true := by kernel_rfl
theorem prm : (Tryz.f5.params.toList.all fun t => Tryz.prog.readableRec t && decide (t < Tryz.prog.types.size)) = true := by kernel_rfl
set_option maxRecDepth 100000 in
theorem k1M (H : Type) (enc : TypeId × Value → H) (W : World) (base : Nat) (args : Array Value) (ds gs : List (DataW H)) (before : List MemPlace)
    (hval : ∀ (j : Nat) t v, Tryz.f5.params[j]? = some t → args[j]? = some v → Value.okWide Tryz.prog W .any base t v)
    (hW : DataW.Whole enc Tryz.prog Tryz.f5.params.toList Rows.coreSpaceSpec.vars false W args.toList ds gs before) (hsh : W.ShapedOpen Tryz.prog) (hL : laidMetH Tryz.prog Rows.coreSpaceRow.laid W) :
    Calls Tryz.prog 5 args W fun e W' => ∃ v, e = .returned v ∧ Rows.coreSpaceSpec.post enc Tryz.prog Tryz.f5 false true false false W args v W' := by
  rw [MakeChecks.laidMetH_plain _ _ _ (by kernel_rfl)] at hL
  have hS := y2D hL hsh
  have hW' := hW
  obtain ⟨p, q, hA0, hV, rfl, hfz, hnd⟩ := hW
  have hA : DataW.TrodAll enc Tryz.prog W 0 (fun _ => true) true Tryz.f5.params.toList args.toList ds p := hA0
  rw [Tryz.params5] at hA hval
  obtain ⟨v0, vs0, d0, ds0, p0, q0, e0, rfl, rfl, h0, r0⟩ := trodAll_cons hA
  obtain ⟨v1, vs1, d1, ds1, p1, q1, e1, rfl, rfl, h1, r1⟩ := trodAll_cons r0
  obtain ⟨rfl, rfl, rfl⟩ := trodAll_nil r1
  obtain rfl : args = #[v0, v1] := by cases args; simp_all
  obtain ⟨rfl, rfl⟩ := trodVars_none hV
  obtain ⟨a0, rfl, rfl, rfl, w0⟩ := open_int Tryz.underlying3 (hval 0 3 v0 rfl rfl) h0
  have w1 : y1B W v1 := k2C Tryz.underlying22 Tryz.underlying24 (by kernel_rfl) ⟨rfl, by kernel_rfl, Tryz.underlying3⟩ ⟨rfl, by kernel_rfl, Tryz.underlying3⟩ ⟨rfl, by kernel_rfl, Tryz.underlying3⟩ ⟨rfl, by kernel_rfl, Tryz.underlying3⟩ ⟨rfl, by kernel_rfl, Tryz.underlying9⟩ (hval 1 22 v1 rfl rfl) h1
  clear hA0
  refine (i2L (a3H W hS a0 w0 v1 w1)).mono fun e W' ⟨he, hb⟩ => ?_
  subst he
  exact ⟨_, rfl, n2V hW' rfl hb y1D prm rfl Tryz.underlying4 rfl⟩
set_option maxRecDepth 100000 in
theorem n2L (os : Os) (started : os.Started) (H : Type) (enc : TypeId × Value → H) :
    ReturnsInHanded {} Tryz.checked os 5 .any (fun w args => (Rows.coreSpaceSpec.pre enc Tryz.prog Tryz.f5 Rows.coreSpaceRow.domain false w args ∧ laidMetH Tryz.prog Rows.coreSpaceRow.laid w) ∧ sizedMet enc Tryz.prog Tryz.f5 (OpenSpec.ofChange Rows.coreSpaceSpec) false w args)
      (Rows.coreSpaceSpec.post enc Tryz.prog Tryz.f5 false true false false) := by
  refine y2E (C := Tryz.checked) own started (by kernel_rfl) Tryz.func5
    (ChangeSpec.witness_shaped (enc := enc) (C := Tryz.checked) (os := os) (X := fun w _ => laidMetH Tryz.prog Rows.coreSpaceRow.laid w) false (World.laidAll Tryz.prog os Rows.coreSpaceRow.laid) #[.int .i64 0, .slice none 0 0] 8 (World.laidAll_os _ _ _) (World.shaped_of_ZipB (by kernel_rfl) (by kernel_rfl)) (by kernel_rfl) (by kernel_rfl) (by kernel_rfl)
      (by rw [MakeChecks.laidMetH_plain _ _ _ (by kernel_rfl)]; exact laidMet_laidAll _ (by kernel_rfl) (by kernel_rfl))) ?_
  intro W base args ds gs before hval hW hsh hL
  exact k1M H enc W base args ds gs before hval hW hsh hL
set_option maxRecDepth 100000 in
theorem c0 : (Rows.coreSpaceRow.inPlace == Tryz.prog.inPlace 5) = true := by kernel_rfl
theorem c1 : (Rows.coreSpaceRow.unfollowed == Tryz.prog.unfollowed 5) = true := by kernel_rfl
theorem c2 : (Rows.coreSpaceRow.recurses == Tryz.prog.recurses 5) = true := by kernel_rfl
theorem c3 : (Rows.coreSpaceRow.named == Tryz.prog.varsNamed 5) = true := by kernel_rfl
theorem c4 : (Rows.coreSpaceRow.lifted == Tryz.prog.liftsFinal) = true := by kernel_rfl
theorem c5 : (Tryz.prog.make == some Rows.coreSpaceRow.make) = true := by kernel_rfl
theorem c6 : (Tryz.prog.mayEnter) = true := by kernel_rfl
theorem c7 : (laidOutB Tryz.prog) = true := by kernel_rfl
theorem c8 : (Tryz.prog.stopsHeard) = true := by kernel_rfl
theorem c9 : (mapsRowed Tryz.prog) = true := by kernel_rfl
theorem a3K : joinedFacts Tryz.prog 5 Tryz.f5 Rows.coreSpaceSpec Rows.coreSpaceRow = true := by
  unfold joinedFacts
  simp only [c0, c1, c2, c3, c4, c5, c6, c7, c8, c9, Bool.and_true, Bool.true_and]
  kernel_rfl
theorem a3L : Tryz.prog.funcNamed Rows.coreSpaceRow.func = some 5 := by kernel_rfl
theorem a3M : Tryz.f5.isInstance Tryz.prog Rows.coreSpaceRow.origin Rows.coreSpaceRow.targs := of_decide_eq_true (by kernel_rfl)
theorem a3N : Tryz.f5.isWrapper Tryz.prog Rows.coreSpaceRow.wrapper Rows.coreSpaceRow.mainSum := by unfold Func.isWrapper; first | (rw [if_pos (by decide +kernel)]; kernel_rfl) | (rw [if_neg (by decide +kernel)]; exact ⟨rfl, rfl⟩)
set_option maxRecDepth 100000 in
theorem over : Rows.coreSpaceRow.holds Tryz.pinned (OpenSpec.ofChange Rows.coreSpaceSpec) :=
  OpenClaim.holds_of_wide (p := Tryz.pinned) (s := Rows.coreSpaceSpec) (c := Rows.coreSpaceRow) 5 Tryz.f5 rfl rfl rfl rfl rfl rfl rfl ⟨rfl, rfl, rfl, rfl, rfl⟩ rfl rfl rfl rfl rfl a3L Tryz.func5 a3K a3M a3N
    (fun os started H enc _ => n2L os started H enc)
theorem p0 : Rows.coreSpaceRow.wfByText (OpenSpec.ofChange Rows.coreSpaceSpec) = true := by kernel_rfl
theorem p1 : Tryz.prog.mainIs = some (((true, "3614977395c70e75ba1bee2a421b0754ad9b62e352e2b7488d710f66bdc691da")).1, ((true, "3614977395c70e75ba1bee2a421b0754ad9b62e352e2b7488d710f66bdc691da")).2.toList) := by kernel_rfl
theorem p2 : true = Tryz.prog.looks [] := by kernel_rfl
theorem p3 : ([3, 22].all fun u => !Tryz.prog.wantsStandIn u) = true := by kernel_rfl
theorem p4 : false = Rows.coreSpaceRow.goesBy Tryz.prog := by kernel_rfl
theorem p5 : Tryz.prog.funcNamed "stereobate/stereobatelaw16.CoreSpace" = some 5 := by kernel_rfl
set_option maxRecDepth 100000 in
theorem proved : Rows.CoreSpaceCardSaid :=
  Claim7.holds_tied_plain_at .later [] [.data, .data, .pinned] true (true, "3614977395c70e75ba1bee2a421b0754ad9b62e352e2b7488d710f66bdc691da") true
    over (fun _ h => by cases h) p0 (fun _ h => by cases h) coreSpace_row_tie rfl ⟨rfl, rfl⟩ p1 rfl
    (fun f fn hf hfn => by
      obtain rfl : f = 5 := Option.some.inj (p5.symm.trans hf) |>.symm
      obtain rfl : fn = Tryz.f5 := (Option.some.inj (Tryz.func5.symm.trans hfn)).symm
      exact ⟨p2, fun j t ht => by
        rw [Tryz.params5] at ht
        have hm : t ∈ [3, 22] := by simpa using Array.mem_of_getElem? ht
        exact (show Tryz.prog.wantsStandIn t = false by simpa using List.all_eq_true.1 p3 t hm)⟩)
    p4
end Go.Proofs.YtpinhnikemamjaaGreatDoor.coreSpaceLaw
