/- Part of the proof; no statement of its own: S15. -/
import Derived.Test.YtoolmpfkbaffcaaDoorFacts
import Derived.Test.YtoolmpfkbaffcaaDoorS14
import Derived.Test.YtoolmpfkbaffcaaDoorSc8
set_option linter.all false
set_option maxRecDepth 4000
set_option maxHeartbeats 4000000
namespace Go.Proofs.YtoolmpfkbaffcaaDoor
open Go.Sl Go.Sc Go.RowKit
def verbsS : ByteArray := ⟨(#[99, 114, 101, 97, 116, 101, 32, 115, 110, 97, 112, 115, 104, 111, 116, 32, 99, 108, 111, 110, 101, 32, 100, 101, 108, 101, 116, 101, 32, 97, 114, 109, 32] ++ #[112, 114, 117, 110, 101, 32, 115, 117, 109, 32, 114, 101, 115, 105, 122, 101, 32, 99, 104, 97, 110, 103, 101, 100, 32, 116, 114, 105, 109, 32, 114, 101, 97]) ++ (#[100, 32, 119, 114, 105, 116, 101, 32, 101, 120, 112, 111, 114, 116, 32, 105, 109, 112, 111, 114, 116, 32, 99, 114, 97, 115, 104, 32, 102, 108, 117, 115, 104] ++ #[32, 99, 104, 101, 99, 107, 112, 111, 105, 110, 116, 32, 109, 111, 117, 110, 116, 32, 115, 99, 114, 117, 98, 32, 115, 112, 97, 99, 101, 32, 108, 105, 115, 116])⟩
def verbsL : List ByteArray := [⟨#[99, 114, 101, 97, 116, 101]⟩, ⟨#[115, 110, 97, 112, 115, 104, 111, 116]⟩, ⟨#[99, 108, 111, 110, 101]⟩, ⟨#[100, 101, 108, 101, 116, 101]⟩, ⟨#[97, 114, 109]⟩, ⟨#[112, 114, 117, 110, 101]⟩, ⟨#[115, 117, 109]⟩, ⟨#[114, 101, 115, 105, 122, 101]⟩, ⟨#[99, 104, 97, 110, 103, 101, 100]⟩, ⟨#[116, 114, 105, 109]⟩, ⟨#[114, 101, 97, 100]⟩, ⟨#[119, 114, 105, 116, 101]⟩, ⟨#[101, 120, 112, 111, 114, 116]⟩, ⟨#[105, 109, 112, 111, 114, 116]⟩, ⟨#[99, 114, 97, 115, 104]⟩, ⟨#[102, 108, 117, 115, 104]⟩, ⟨#[99, 104, 101, 99, 107, 112, 111, 105, 110, 116]⟩, ⟨#[109, 111, 117, 110, 116]⟩, ⟨#[115, 99, 114, 117, 98]⟩, ⟨#[115, 112, 97, 99, 101]⟩, ⟨#[108, 105, 115, 116]⟩]
theorem verbs_fields : Lib.fields verbsS.data.toList = verbsL.map (·.data.toList) := by decide +kernel
theorem verbs_ascii : ∀ (j : Nat) b, verbsS.data.toList[j]? = some b → b.toNat < 128 := by
  intro j b h
  have hall : verbsS.data.toList.all (fun b => decide (b.toNat < 128)) = true := by decide +kernel
  have := List.all_eq_true.1 hall b (List.mem_of_getElem? h)
  simpa using this
theorem verbs_does {W : World} (ha : Lib.TabIs Tryd.prog W "strings.asciiSpace" .u8 Lib.asciiSpaceTab) : Does Tryd.prog 37 #[.string verbsS] [whole W]
    (GivesE (fun _ : Nat => True) (fun b => .slice (some ⟨b, 0, none⟩) 21 21) fun b => [pts b (.cells (verbsL.map Value.string).toArray 9 (0, 0)), whole W]) := by
  refine does_lay fun w L hL => (Tryd.strings_Fields_laid verbsS w (by decide) verbs_ascii (var_whole hL ha)).mono fun e w' h => ?_
  rw [verbs_fields] at h
  have e1 : (verbsL.map (·.data.toList)).map (fun l => Value.string ⟨l.toArray⟩) = verbsL.map Value.string := by
    rw [List.map_map]; apply List.map_congr_left; intro a _; cases a; simp
  rw [e1] at h
  exact h
theorem verbs_spec {W : World} (ha : Lib.TabIs Tryd.prog W "strings.asciiSpace" .u8 Lib.asciiSpaceTab) : Does Tryd.prog 26 #[] [whole W]
    (GivesE (fun _ : Nat => True) (fun b => .slice (some ⟨b, 0, none⟩) 21 21) fun b => [pts b (.cells (verbsL.map Value.string).toArray 9 (0, 0)), whole W]) := by
  refine does_enter Tryd.func26 rfl Tryd.ntmps26 rfl (fun R w0 => ?_)
  simp only [envOf, List.cons_append, List.nil_append]
  refine cw_seq ?_
  refine cw_region ?_
  refine ow_y (y_assign rfl) ?_
  refine ow_nil ?_
  refine kw_code (fun _ _ h => h) ?_
  refine cw_seq ?_
  refine cw_region ?_
  refine ow_givesE rfl F.hb37 rfl ((verbs_does ha)) (by repeat (first | exact Split.nil | apply Split.cons (by repeat (first | exact Fnd.here | apply Fnd.there)))) ?_
  rintro b _
  simp only [List.cons_append, List.nil_append]
  refine ow_y (y_assign rfl) ?_
  refine ow_nil ?_
  refine kw_code (fun _ _ h => h) ?_
  refine cw_retE b trivial (fun _ _ h => h) rfl rfl (by repeat (first | exact Split.nil | apply Split.cons (by repeat (first | exact Fnd.here | apply Fnd.there))))
end Go.Proofs.YtoolmpfkbaffcaaDoor
