/- CoreApart -/
import Derived.Test.YtpinhnikemamjaaGreatDoorRows
import Derived.Test.YtpinhnikemamjaaGreatDoorCards
import Derived.Test.YtpinhnikemamjaaGreatDoorTie
import Derived.ProofKit
import Derived.OpenShut
import Derived.SevenTiedAt
import Derived.Test.YtpinhnikemamjaaGreatDoorB16
import Derived.Test.YtpinhnikemamjaaGreatDoorB34
set_option linter.all false
namespace Go.Proofs.YtpinhnikemamjaaGreatDoor.coreApartLaw
open Go.Proofs.Q
open Go.ChangeShapes Go.WideShapes Go.ChangeAt Go.RowKit Go.Sl
open Go.ChangeMaps (open_string shut_string)
theorem own : ownKnob Tryz.prog.godebug = none := by kernel_rfl
theorem u1A : laidOutB Tryz.prog = true := by kernel_rfl
theorem prm : (Tryz.f3.params.toList.all fun t => Tryz.prog.readableRec t && decide (t < Tryz.prog.types.size)) = true := by kernel_rfl
set_option maxRecDepth 100000 in
theorem g1Y (H : Type) (enc : TypeId × Value → H) (W : World) (base : Nat) (args : Array Value) (ds gs : List (DataW H)) (before : List MemPlace)
    (hval : ∀ (j : Nat) t v, Tryz.f3.params[j]? = some t → args[j]? = some v → Value.okWide Tryz.prog W .any base t v)
    (hW : DataW.Whole enc Tryz.prog Tryz.f3.params.toList Rows.coreApartSpec.vars false W args.toList ds gs before) (hsh : W.ShapedOpen Tryz.prog) (hL : laidMetH Tryz.prog Rows.coreApartRow.laid W) :
    Calls Tryz.prog 3 args W fun e W' => ∃ v, e = .returned v ∧ Rows.coreApartSpec.post enc Tryz.prog Tryz.f3 false true false false W args v W' := by
  rw [MakeChecks.laidMetH_plain _ _ _ (by kernel_rfl)] at hL
  have hS := r2O hL hsh
  have hW' := hW
  obtain ⟨p, q, hA0, hV, rfl, hfz, hnd⟩ := hW
  have hA : DataW.TrodAll enc Tryz.prog W 0 (fun _ => true) true Tryz.f3.params.toList args.toList ds p := hA0
  rw [Tryz.params3] at hA hval
  obtain ⟨v0, vs0, d0, ds0, p0, q0, e0, rfl, rfl, h0, r0⟩ := trodAll_cons hA
  obtain ⟨v1, vs1, d1, ds1, p1, q1, e1, rfl, rfl, h1, r1⟩ := trodAll_cons r0
  obtain ⟨rfl, rfl, rfl⟩ := trodAll_nil r1
  obtain rfl : args = #[v0, v1] := by cases args; simp_all
  obtain ⟨rfl, rfl⟩ := trodVars_none hV
  have w0 : t1Y W v0 := h2X Tryz.underlying22 Tryz.underlying24 (by kernel_rfl) ⟨rfl, by kernel_rfl, Tryz.underlying3⟩ ⟨rfl, by kernel_rfl, Tryz.underlying3⟩ ⟨rfl, by kernel_rfl, Tryz.underlying3⟩ ⟨rfl, by kernel_rfl, Tryz.underlying3⟩ ⟨rfl, by kernel_rfl, Tryz.underlying9⟩ (hval 0 22 v0 rfl rfl) h0
  have w1 : n2A v1 := h2W Tryz.underlying24 (by kernel_rfl) ⟨rfl, by kernel_rfl, Tryz.underlying3⟩ ⟨rfl, by kernel_rfl, Tryz.underlying3⟩ ⟨rfl, by kernel_rfl, Tryz.underlying3⟩ ⟨rfl, by kernel_rfl, Tryz.underlying3⟩ ⟨rfl, by kernel_rfl, Tryz.underlying9⟩ (hval 1 24 v1 rfl rfl) h1
  clear hA0
  refine (d2I (l1S W hS v0 w0 v1 w1)).mono fun e W' ⟨he, hb⟩ => ?_
  subst he
  exact ⟨_, rfl, i2D hW' rfl hb u1A prm rfl Tryz.underlying4 rfl⟩
set_option maxRecDepth 100000 in
theorem s2J (os : Os) (started : os.Started) (H : Type) (enc : TypeId × Value → H) :
    ReturnsInHanded {} Tryz.checked os 3 .any (fun w args => (Rows.coreApartSpec.pre enc Tryz.prog Tryz.f3 Rows.coreApartRow.domain false w args ∧ laidMetH Tryz.prog Rows.coreApartRow.laid w) ∧ sizedMet enc Tryz.prog Tryz.f3 (OpenSpec.ofChange Rows.coreApartSpec) false w args)
      (Rows.coreApartSpec.post enc Tryz.prog Tryz.f3 false true false false) := by
  refine r2P (C := Tryz.checked) own started (by kernel_rfl) Tryz.func3
    (ChangeSpec.witness_shaped (enc := enc) (C := Tryz.checked) (os := os) (X := fun w _ => laidMetH Tryz.prog Rows.coreApartRow.laid w) false (World.laidAll Tryz.prog os Rows.coreApartRow.laid) #[.slice none 0 0, .agg #[.int .i64 0, .int .i64 0, .int .i64 0, .int .i64 0, .string ByteArray.empty]] 8 (World.laidAll_os _ _ _) (World.shaped_of_ZipB (by kernel_rfl) (by kernel_rfl)) (by kernel_rfl) (by kernel_rfl) (by kernel_rfl)
      (by rw [MakeChecks.laidMetH_plain _ _ _ (by kernel_rfl)]; exact laidMet_laidAll _ (by kernel_rfl) (by kernel_rfl))) ?_
  intro W base args ds gs before hval hW hsh hL
  exact g1Y H enc W base args ds gs before hval hW hsh hL
set_option maxRecDepth 100000 in
theorem q2L : joinedFacts Tryz.prog 3 Tryz.f3 Rows.coreApartSpec Rows.coreApartRow = true := by kernel_rfl
theorem s2K : Tryz.prog.funcNamed Rows.coreApartRow.func = some 3 := by kernel_rfl
theorem t2L : Tryz.f3.isInstance Tryz.prog Rows.coreApartRow.origin Rows.coreApartRow.targs := of_decide_eq_true (by kernel_rfl)
theorem t2M : Tryz.f3.isWrapper Tryz.prog Rows.coreApartRow.wrapper Rows.coreApartRow.mainSum := by unfold Func.isWrapper; first | (rw [if_pos (by decide +kernel)]; kernel_rfl) | (rw [if_neg (by decide +kernel)]; exact ⟨rfl, rfl⟩)
set_option maxRecDepth 100000 in
theorem over : Rows.coreApartRow.holds Tryz.pinned (OpenSpec.ofChange Rows.coreApartSpec) :=
  OpenClaim.holds_of_wide (p := Tryz.pinned) (s := Rows.coreApartSpec) (c := Rows.coreApartRow) 3 Tryz.f3 rfl rfl rfl rfl rfl rfl rfl ⟨rfl, rfl, rfl, rfl, rfl⟩ rfl rfl rfl rfl rfl s2K Tryz.func3 q2L t2L t2M
    (fun os started H enc _ => s2J os started H enc)
set_option maxRecDepth 100000 in
theorem proved : Rows.CoreApartCardSaid :=
  Claim7.holds_tied_plain_at .later [] [.data, .data, .pinned] true (true, "3614977395c70e75ba1bee2a421b0754ad9b62e352e2b7488d710f66bdc691da") true
    over (fun _ h => by cases h) (by kernel_rfl) (fun _ h => by cases h) coreApart_row_tie rfl ⟨rfl, rfl⟩ (by kernel_rfl) rfl
    (fun f fn hf hfn => by
      obtain rfl : f = 3 := Option.some.inj ((show Tryz.prog.funcNamed "stereobate/stereobatelaw16.CoreApart" = some 3 by kernel_rfl).symm.trans hf) |>.symm
      obtain rfl : fn = Tryz.f3 := (Option.some.inj (Tryz.func3.symm.trans hfn)).symm
      exact ⟨by kernel_rfl, fun j t ht => by
        rw [Tryz.params3] at ht
        have hm : t ∈ [22, 24] := by simpa using Array.mem_of_getElem? ht
        have hall : ([22, 24].all fun u => !Tryz.prog.wantsStandIn u) = true := by kernel_rfl
        exact (show Tryz.prog.wantsStandIn t = false by simpa using List.all_eq_true.1 hall t hm)⟩)
    (by kernel_rfl)
end Go.Proofs.YtpinhnikemamjaaGreatDoor.coreApartLaw
