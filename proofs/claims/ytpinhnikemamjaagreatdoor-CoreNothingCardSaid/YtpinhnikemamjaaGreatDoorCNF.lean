/- CoreNothing -/
import Derived.Test.YtpinhnikemamjaaGreatDoorRows
import Derived.Test.YtpinhnikemamjaaGreatDoorCards
import Derived.Test.YtpinhnikemamjaaGreatDoorTie
import Derived.ProofKit
import Derived.OpenShut
import Derived.SevenTiedAt
import Derived.Test.YtpinhnikemamjaaGreatDoorN23
import Derived.Test.YtpinhnikemamjaaGreatDoorN36
set_option linter.all false
namespace Go.Proofs.YtpinhnikemamjaaGreatDoor.coreNothingLaw
open Go.Proofs.Q
open Go.ChangeShapes Go.WideShapes Go.ChangeAt Go.RowKit Go.Sl
open Go.ChangeMaps (open_string shut_string)
theorem own : ownKnob Tryz.prog.godebug = none := by kernel_rfl
theorem w1K : laidOutB Tryz.prog = true := by kernel_rfl
theorem prm : (Tryz.f6.params.toList.all fun t => Tryz.prog.readableRec t && decide (t < Tryz.prog.types.size)) = true := by kernel_rfl
set_option maxRecDepth 100000 in
theorem j1G (H : Type) (enc : TypeId × Value → H) (W : World) (base : Nat) (args : Array Value) (ds gs : List (DataW H)) (before : List MemPlace)
    (hval : ∀ (j : Nat) t v, Tryz.f6.params[j]? = some t → args[j]? = some v → Value.okWide Tryz.prog W .any base t v)
    (hW : DataW.Whole enc Tryz.prog Tryz.f6.params.toList Rows.coreNothingSpec.vars false W args.toList ds gs before) (hsh : W.ShapedOpen Tryz.prog) (hL : laidMetH Tryz.prog Rows.coreNothingRow.laid W) :
    Calls Tryz.prog 6 args W fun e W' => ∃ v, e = .returned v ∧ Rows.coreNothingSpec.post enc Tryz.prog Tryz.f6 false true false false W args v W' := by
  rw [MakeChecks.laidMetH_plain _ _ _ (by kernel_rfl)] at hL
  have hS := w2C hL hsh
  have hW' := hW
  obtain ⟨p, q, hA0, hV, rfl, hfz, hnd⟩ := hW
  have hA : DataW.TrodAll enc Tryz.prog W 0 (fun _ => true) true Tryz.f6.params.toList args.toList ds p := hA0
  rw [Tryz.params6] at hA hval
  obtain ⟨v0, vs0, d0, ds0, p0, q0, e0, rfl, rfl, h0, r0⟩ := trodAll_cons hA
  obtain ⟨v1, vs1, d1, ds1, p1, q1, e1, rfl, rfl, h1, r1⟩ := trodAll_cons r0
  obtain ⟨v2, vs2, d2, ds2, p2, q2, e2, rfl, rfl, h2, r2⟩ := trodAll_cons r1
  obtain ⟨rfl, rfl, rfl⟩ := trodAll_nil r2
  obtain rfl : args = #[v0, v1, v2] := by cases args; simp_all
  obtain ⟨rfl, rfl⟩ := trodVars_none hV
  have w0 : w1I W v0 := h2X Tryz.underlying22 Tryz.underlying24 (by kernel_rfl) ⟨rfl, by kernel_rfl, Tryz.underlying3⟩ ⟨rfl, by kernel_rfl, Tryz.underlying3⟩ ⟨rfl, by kernel_rfl, Tryz.underlying3⟩ ⟨rfl, by kernel_rfl, Tryz.underlying3⟩ ⟨rfl, by kernel_rfl, Tryz.underlying9⟩ (hval 0 22 v0 rfl rfl) h0
  obtain ⟨a1, rfl, rfl, rfl, w1⟩ := open_int Tryz.underlying3 (hval 1 3 v1 rfl rfl) h1
  obtain ⟨a2, rfl, rfl, rfl, w2⟩ := open_int Tryz.underlying3 (hval 2 3 v2 rfl rfl) h2
  clear hA0
  refine (g2H (y2H W hS v0 w0 a1 w1 a2 w2)).mono fun e W' ⟨he, hb⟩ => ?_
  subst he
  exact ⟨_, rfl, l2P hW' rfl hb w1K prm rfl Tryz.underlying4 rfl⟩
set_option maxRecDepth 100000 in
theorem l2F (os : Os) (started : os.Started) (H : Type) (enc : TypeId × Value → H) :
    ReturnsInHanded {} Tryz.checked os 6 .any (fun w args => (Rows.coreNothingSpec.pre enc Tryz.prog Tryz.f6 Rows.coreNothingRow.domain false w args ∧ laidMetH Tryz.prog Rows.coreNothingRow.laid w) ∧ sizedMet enc Tryz.prog Tryz.f6 (OpenSpec.ofChange Rows.coreNothingSpec) false w args)
      (Rows.coreNothingSpec.post enc Tryz.prog Tryz.f6 false true false false) := by
  refine w2D (C := Tryz.checked) own started (by kernel_rfl) Tryz.func6
    (ChangeSpec.witness_shaped (enc := enc) (C := Tryz.checked) (os := os) (X := fun w _ => laidMetH Tryz.prog Rows.coreNothingRow.laid w) false (World.laidAll Tryz.prog os Rows.coreNothingRow.laid) #[.slice none 0 0, .int .i64 0, .int .i64 0] 8 (World.laidAll_os _ _ _) (World.shaped_of_ZipB (by kernel_rfl) (by kernel_rfl)) (by kernel_rfl) (by kernel_rfl) (by kernel_rfl)
      (by rw [MakeChecks.laidMetH_plain _ _ _ (by kernel_rfl)]; exact laidMet_laidAll _ (by kernel_rfl) (by kernel_rfl))) ?_
  intro W base args ds gs before hval hW hsh hL
  exact j1G H enc W base args ds gs before hval hW hsh hL
set_option maxRecDepth 100000 in
theorem c0 : (Rows.coreNothingRow.inPlace == Tryz.prog.inPlace 6) = true := by kernel_rfl
theorem c1 : (Rows.coreNothingRow.unfollowed == Tryz.prog.unfollowed 6) = true := by kernel_rfl
theorem c2 : (Rows.coreNothingRow.recurses == Tryz.prog.recurses 6) = true := by kernel_rfl
theorem c3 : (Rows.coreNothingRow.named == Tryz.prog.varsNamed 6) = true := by kernel_rfl
theorem c4 : (Rows.coreNothingRow.lifted == Tryz.prog.liftsFinal) = true := by kernel_rfl
theorem c5 : (Tryz.prog.make == some Rows.coreNothingRow.make) = true := by kernel_rfl
theorem c6 : (Tryz.prog.mayEnter) = true := by kernel_rfl
theorem c7 : (laidOutB Tryz.prog) = true := by kernel_rfl
theorem c8 : (Tryz.prog.stopsHeard) = true := by kernel_rfl
theorem c9 : (mapsRowed Tryz.prog) = true := by kernel_rfl
theorem y2M : joinedFacts Tryz.prog 6 Tryz.f6 Rows.coreNothingSpec Rows.coreNothingRow = true := by
  unfold joinedFacts
  simp only [c0, c1, c2, c3, c4, c5, c6, c7, c8, c9, Bool.and_true, Bool.true_and]
  kernel_rfl
theorem y2N : Tryz.prog.funcNamed Rows.coreNothingRow.func = some 6 := by kernel_rfl
theorem y2O : Tryz.f6.isInstance Tryz.prog Rows.coreNothingRow.origin Rows.coreNothingRow.targs := of_decide_eq_true (by kernel_rfl)
theorem y2P : Tryz.f6.isWrapper Tryz.prog Rows.coreNothingRow.wrapper Rows.coreNothingRow.mainSum := by unfold Func.isWrapper; first | (rw [if_pos (by decide +kernel)]; kernel_rfl) | (rw [if_neg (by decide +kernel)]; exact ⟨rfl, rfl⟩)
set_option maxRecDepth 100000 in
theorem over : Rows.coreNothingRow.holds Tryz.pinned (OpenSpec.ofChange Rows.coreNothingSpec) :=
  OpenClaim.holds_of_wide (p := Tryz.pinned) (s := Rows.coreNothingSpec) (c := Rows.coreNothingRow) 6 Tryz.f6 rfl rfl rfl rfl rfl rfl rfl ⟨rfl, rfl, rfl, rfl, rfl⟩ rfl rfl rfl rfl rfl y2N Tryz.func6 y2M y2O y2P
    (fun os started H enc _ => l2F os started H enc)
theorem p0 : Rows.coreNothingRow.wfByText (OpenSpec.ofChange Rows.coreNothingSpec) = true := by kernel_rfl
theorem p1 : Tryz.prog.mainIs = some (((true, "3614977395c70e75ba1bee2a421b0754ad9b62e352e2b7488d710f66bdc691da")).1, ((true, "3614977395c70e75ba1bee2a421b0754ad9b62e352e2b7488d710f66bdc691da")).2.toList) := by kernel_rfl
theorem p2 : true = Tryz.prog.looks [] := by kernel_rfl
theorem p3 : ([22, 3, 3].all fun u => !Tryz.prog.wantsStandIn u) = true := by kernel_rfl
theorem p4 : false = Rows.coreNothingRow.goesBy Tryz.prog := by kernel_rfl
theorem p5 : Tryz.prog.funcNamed "stereobate/stereobatelaw16.CoreNothing" = some 6 := by kernel_rfl
set_option maxRecDepth 100000 in
theorem proved : Rows.CoreNothingCardSaid :=
  Claim7.holds_tied_plain_at .later [] [.data, .data, .pinned] true (true, "3614977395c70e75ba1bee2a421b0754ad9b62e352e2b7488d710f66bdc691da") true
    over (fun _ h => by cases h) p0 (fun _ h => by cases h) coreNothing_row_tie rfl ⟨rfl, rfl⟩ p1 rfl
    (fun f fn hf hfn => by
      obtain rfl : f = 6 := Option.some.inj (p5.symm.trans hf) |>.symm
      obtain rfl : fn = Tryz.f6 := (Option.some.inj (Tryz.func6.symm.trans hfn)).symm
      exact ⟨p2, fun j t ht => by
        rw [Tryz.params6] at ht
        have hm : t ∈ [22, 3, 3] := by simpa using Array.mem_of_getElem? ht
        exact (show Tryz.prog.wantsStandIn t = false by simpa using List.all_eq_true.1 p3 t hm)⟩)
    p4
end Go.Proofs.YtpinhnikemamjaaGreatDoor.coreNothingLaw
