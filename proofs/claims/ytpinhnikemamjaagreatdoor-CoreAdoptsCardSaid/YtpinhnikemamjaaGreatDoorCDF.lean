/- CoreAdopts -/
import Derived.Test.YtpinhnikemamjaaGreatDoorRows
import Derived.Test.YtpinhnikemamjaaGreatDoorCards
import Derived.Test.YtpinhnikemamjaaGreatDoorTie
import Derived.ProofKit
import Derived.OpenShut
import Derived.SevenTiedAt
import Derived.Test.YtpinhnikemamjaaGreatDoorD24
import Derived.Test.YtpinhnikemamjaaGreatDoorD37
set_option linter.all false
namespace Go.Proofs.YtpinhnikemamjaaGreatDoor.coreAdoptsLaw
open Go.Proofs.Q
open Go.ChangeShapes Go.WideShapes Go.ChangeAt Go.RowKit Go.Sl
open Go.ChangeMaps (open_string shut_string)
theorem own : ownKnob Tryz.prog.godebug = none := by kernel_rfl
theorem y1D : laidOutB Tryz.prog = true := by kernel_rfl
theorem prm : (Tryz.f9.params.toList.all fun t => Tryz.prog.readableRec t && decide (t < Tryz.prog.types.size)) = true := by kernel_rfl
set_option maxRecDepth 100000 in
theorem k1M (H : Type) (enc : TypeId × Value → H) (W : World) (base : Nat) (args : Array Value) (ds l : List (DataW H)) (a : List MemPlace)
    (b : ∀ (j : Nat) t v, Tryz.f9.params[j]? = some t → args[j]? = some v → Value.okWide Tryz.prog W .any base t v)
    (i : DataW.Whole enc Tryz.prog Tryz.f9.params.toList Rows.coreAdoptsSpec.vars false W args.toList ds l a) (f : W.ShapedOpen Tryz.prog) (hL : laidMetH Tryz.prog Rows.coreAdoptsRow.laid W) :
    Calls Tryz.prog 9 args W fun e g => ∃ v, e = .returned v ∧ Rows.coreAdoptsSpec.post enc Tryz.prog Tryz.f9 false true false false W args v g := by
  rw [MakeChecks.laidMetH_plain _ _ _ (by kernel_rfl)] at hL
  have n := y2D hL f
  have d := i
  obtain ⟨p, q, c, o, rfl, s, u⟩ := i
  have h : DataW.TrodAll enc Tryz.prog W 0 (fun _ => true) true Tryz.f9.params.toList args.toList ds p := c
  rw [Tryz.params9] at h b
  obtain ⟨v0, x, y, k, p0, z, e0, rfl, rfl, m, w⟩ := trodAll_cons h
  obtain ⟨rfl, rfl, rfl⟩ := trodAll_nil w
  obtain rfl : args = #[v0] := by cases args; simp_all
  obtain ⟨rfl, rfl⟩ := trodVars_none o
  have w0 : y1B W v0 := k2C Tryz.underlying22 Tryz.underlying24 (by kernel_rfl) ⟨rfl, by kernel_rfl, Tryz.underlying3⟩ ⟨rfl, by kernel_rfl, Tryz.underlying3⟩ ⟨rfl, by kernel_rfl, Tryz.underlying3⟩ ⟨rfl, by kernel_rfl, Tryz.underlying3⟩ ⟨rfl, by kernel_rfl, Tryz.underlying9⟩ (b 0 22 v0 rfl rfl) m
  clear c
  refine (i2L (n1J W n v0 w0)).mono fun e g ⟨r, hb⟩ => ?_
  subst r
  exact ⟨_, rfl, n2V d rfl hb y1D prm rfl Tryz.underlying4 rfl⟩
set_option maxRecDepth 100000 in
theorem n2L (os : Os) (a : os.Started) (H : Type) (enc : TypeId × Value → H) :
    ReturnsInHanded {} Tryz.checked os 9 .any (fun w args => (Rows.coreAdoptsSpec.pre enc Tryz.prog Tryz.f9 Rows.coreAdoptsRow.domain false w args ∧ laidMetH Tryz.prog Rows.coreAdoptsRow.laid w) ∧ sizedMet enc Tryz.prog Tryz.f9 (OpenSpec.ofChange Rows.coreAdoptsSpec) false w args)
      (Rows.coreAdoptsSpec.post enc Tryz.prog Tryz.f9 false true false false) := by
  refine y2E (C := Tryz.checked) own a (by kernel_rfl) Tryz.func9
    (ChangeSpec.witness_shaped (enc := enc) (C := Tryz.checked) (os := os) (X := fun w _ => laidMetH Tryz.prog Rows.coreAdoptsRow.laid w) false (World.laidAll Tryz.prog os Rows.coreAdoptsRow.laid) #[.slice none 0 0] 8 (World.laidAll_os _ _ _) (World.shaped_of_ZipB (by kernel_rfl) (by kernel_rfl)) (by kernel_rfl) (by kernel_rfl) (by kernel_rfl)
      (by rw [MakeChecks.laidMetH_plain _ _ _ (by kernel_rfl)]; exact laidMet_laidAll _ (by kernel_rfl) (by kernel_rfl))) ?_
  intro W base args ds e b c f d hL
  exact k1M H enc W base args ds e b c f d hL
set_option maxRecDepth 100000 in
theorem c0 : (Rows.coreAdoptsRow.inPlace == Tryz.prog.inPlace 9) = true := by kernel_rfl
theorem c1 : (Rows.coreAdoptsRow.unfollowed == Tryz.prog.unfollowed 9) = true := by kernel_rfl
theorem c2 : (Rows.coreAdoptsRow.recurses == Tryz.prog.recurses 9) = true := by kernel_rfl
theorem c3 : (Rows.coreAdoptsRow.named == Tryz.prog.varsNamed 9) = true := by kernel_rfl
theorem c4 : (Rows.coreAdoptsRow.lifted == Tryz.prog.liftsFinal) = true := by kernel_rfl
theorem c5 : (Tryz.prog.make == some Rows.coreAdoptsRow.make) = true := by kernel_rfl
theorem c6 : (Tryz.prog.mayEnter) = true := by kernel_rfl
theorem c7 : (laidOutB Tryz.prog) = true := by kernel_rfl
theorem c8 : (Tryz.prog.stopsHeard) = true := by kernel_rfl
theorem c9 : (mapsRowed Tryz.prog) = true := by kernel_rfl
theorem w2U : joinedFacts Tryz.prog 9 Tryz.f9 Rows.coreAdoptsSpec Rows.coreAdoptsRow = true := by
  unfold joinedFacts
  simp only [c0, c1, c2, c3, c4, c5, c6, c7, c8, c9, Bool.and_true, Bool.true_and]
  kernel_rfl
theorem z2D : Tryz.prog.funcNamed Rows.coreAdoptsRow.func = some 9 := by kernel_rfl
theorem a3C : Tryz.f9.isInstance Tryz.prog Rows.coreAdoptsRow.origin Rows.coreAdoptsRow.targs := of_decide_eq_true (by kernel_rfl)
theorem a3D : Tryz.f9.isWrapper Tryz.prog Rows.coreAdoptsRow.wrapper Rows.coreAdoptsRow.mainSum := by unfold Func.isWrapper; first | (rw [if_pos (by decide +kernel)]; kernel_rfl) | (rw [if_neg (by decide +kernel)]; exact ⟨rfl, rfl⟩)
set_option maxRecDepth 100000 in
theorem over : Rows.coreAdoptsRow.holds Tryz.pinned (OpenSpec.ofChange Rows.coreAdoptsSpec) :=
  OpenClaim.holds_of_wide (p := Tryz.pinned) (s := Rows.coreAdoptsSpec) (c := Rows.coreAdoptsRow) 9 Tryz.f9 rfl rfl rfl rfl rfl rfl rfl ⟨rfl, rfl, rfl, rfl, rfl⟩ rfl rfl rfl rfl rfl z2D Tryz.func9 w2U a3C a3D
    (fun os a H enc _ => n2L os a H enc)
theorem p0 : Rows.coreAdoptsRow.wfByText (OpenSpec.ofChange Rows.coreAdoptsSpec) = true := by kernel_rfl
theorem p1 : Tryz.prog.mainIs = some (((true, "3614977395c70e75ba1bee2a421b0754ad9b62e352e2b7488d710f66bdc691da")).1, ((true, "3614977395c70e75ba1bee2a421b0754ad9b62e352e2b7488d710f66bdc691da")).2.toList) := by kernel_rfl
theorem p2 : true = Tryz.prog.looks [] := by kernel_rfl
theorem p3 : ([22].all fun u => !Tryz.prog.wantsStandIn u) = true := by kernel_rfl
theorem p4 : false = Rows.coreAdoptsRow.goesBy Tryz.prog := by kernel_rfl
theorem p5 : Tryz.prog.funcNamed "stereobate/stereobatelaw16.CoreAdopts" = some 9 := by kernel_rfl
set_option maxRecDepth 100000 in
theorem proved : Rows.CoreAdoptsCardSaid :=
  Claim7.holds_tied_plain_at .later [] [.data, .data, .pinned] true (true, "3614977395c70e75ba1bee2a421b0754ad9b62e352e2b7488d710f66bdc691da") true
    over (fun _ h => by cases h) p0 (fun _ h => by cases h) coreAdopts_row_tie rfl ⟨rfl, rfl⟩ p1 rfl
    (fun f fn c a => by
      obtain rfl : f = 9 := Option.some.inj (p5.symm.trans c) |>.symm
      obtain rfl : fn = Tryz.f9 := (Option.some.inj (Tryz.func9.symm.trans a)).symm
      exact ⟨p2, fun j t b => by
        rw [Tryz.params9] at b
        have d : t ∈ [22] := by simpa using Array.mem_of_getElem? b
        exact (show Tryz.prog.wantsStandIn t = false by simpa using List.all_eq_true.1 p3 t d)⟩)
    p4
end Go.Proofs.YtpinhnikemamjaaGreatDoor.coreAdoptsLaw
