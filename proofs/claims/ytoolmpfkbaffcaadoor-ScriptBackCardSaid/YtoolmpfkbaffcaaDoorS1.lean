/- Part of the proof; no statement of its own: S1. -/
import Derived.Test.YtoolmpfkbaffcaaDoorFacts
import Derived.Test.YtoolmpfkbaffcaaDoorSlStr
import Derived.Test.YtoolmpfkbaffcaaDoorSc
set_option linter.all false
set_option maxRecDepth 4000
set_option maxHeartbeats 4000000
namespace Go.Proofs.YtoolmpfkbaffcaaDoor
open Go.Sl Go.Sc
def shapeV (s : ByteArray) : Value := match lnShape s with
  | none => .tuple #[.string ⟨#[]⟩, .bool false]
  | some p => .tuple #[.string (lnShapeT p), .bool true]
def rshapeV (s : ByteArray) : Value := match lnShape s with
  | none => .tuple #[.int .i64 0, .bool false, .bool false]
  | some (none, w) => .tuple #[.int .i64 (-1), .bool w, .bool true]
  | some (some n, w) => .tuple #[.int .i64 n, .bool w, .bool true]
theorem shape_spec (s : ByteArray) : Does Tryd.prog 20 #[.string s] [] (Gives (shapeV s) []) := by
  refine does_enter Tryd.func20 rfl Tryd.ntmps20 rfl (fun R w0 => ?_)
  simp only [envOf, List.cons_append, List.nil_append]
  refine cw_seq ?_
  refine cw_region ?_
  refine ow_y (y_assign rfl) ?_
  refine ow_y (y_assign rfl) ?_
  refine ow_nil ?_
  refine kw_code (fun _ _ h => h) ?_
  refine cw_seq ?_
  refine cw_seq ?_
  refine cw_region ?_
  refine ow_y (y_move rfl) ?_
  refine ow_nil ?_
  refine kw_code (fun _ _ h => h) ?_
  refine cw_block ?_
  refine cw_seq ?_
  refine cw_seq ?_
  refine cw_region ?_
  refine ow_y (y_str_eqlD rfl rfl) ?_
  refine ow_y (y_assign rfl) ?_
  refine ow_nil ?_
  refine kw_code (fun _ _ h => h) ?_
  refine cw_if rfl (fun hb5 => ?_) (fun hb5 => ?_)
  · skip
    refine cw_skip ?_
    refine kw_code (fun _ _ h => h) ?_
    refine cw_true rfl hb5 ?_
    refine cw_seq ?_
    refine cw_region ?_
    refine ow_y (y_assign rfl) ?_
    refine ow_y (y_assign rfl) ?_
    refine ow_nil ?_
    refine kw_code (fun _ _ h => h) ?_
    refine cw_retG (fun _ _ h => h) rfl (by simp_all [shapeV, lnShape, lnShapeT, sb]) (by repeat (first | exact Split.nil | apply Split.cons (by repeat (first | exact Fnd.here | apply Fnd.there))))
  · skip
    refine cw_seq ?_
    refine cw_region ?_
    refine ow_y (y_str_eqlD rfl rfl) ?_
    refine ow_y (y_assign rfl) ?_
    refine ow_nil ?_
    refine kw_code (fun _ _ h => h) ?_
    refine cw_if rfl (fun hb5 => ?_) (fun hb5 => ?_)
    · skip
      refine cw_skip ?_
      refine kw_code (fun _ _ h => h) ?_
      refine cw_true rfl hb5 ?_
      refine cw_seq ?_
      refine cw_region ?_
      refine ow_y (y_assign rfl) ?_
      refine ow_y (y_assign rfl) ?_
      refine ow_nil ?_
      refine kw_code (fun _ _ h => h) ?_
      refine cw_retG (fun _ _ h => h) rfl (by simp_all [shapeV, lnShape, lnShapeT, sb]) (by repeat (first | exact Split.nil | apply Split.cons (by repeat (first | exact Fnd.here | apply Fnd.there))))
    · skip
      refine cw_seq ?_
      refine cw_region ?_
      refine ow_y (y_str_eqlD rfl rfl) ?_
      refine ow_y (y_assign rfl) ?_
      refine ow_nil ?_
      refine kw_code (fun _ _ h => h) ?_
      refine cw_if rfl (fun hb5 => ?_) (fun hb5 => ?_)
      · skip
        refine cw_skip ?_
        refine kw_code (fun _ _ h => h) ?_
        refine cw_true rfl hb5 ?_
        refine cw_seq ?_
        refine cw_region ?_
        refine ow_y (y_assign rfl) ?_
        refine ow_y (y_assign rfl) ?_
        refine ow_nil ?_
        refine kw_code (fun _ _ h => h) ?_
        refine cw_retG (fun _ _ h => h) rfl (by simp_all [shapeV, lnShape, lnShapeT, sb]) (by repeat (first | exact Split.nil | apply Split.cons (by repeat (first | exact Fnd.here | apply Fnd.there))))
      · skip
        refine cw_seq ?_
        refine cw_region ?_
        refine ow_y (y_str_eqlD rfl rfl) ?_
        refine ow_y (y_assign rfl) ?_
        refine ow_nil ?_
        refine kw_code (fun _ _ h => h) ?_
        refine cw_if rfl (fun hb5 => ?_) (fun hb5 => ?_)
        · skip
          refine cw_skip ?_
          refine kw_code (fun _ _ h => h) ?_
          refine cw_true rfl hb5 ?_
          refine cw_seq ?_
          refine cw_region ?_
          refine ow_y (y_assign rfl) ?_
          refine ow_y (y_assign rfl) ?_
          refine ow_nil ?_
          refine kw_code (fun _ _ h => h) ?_
          refine cw_retG (fun _ _ h => h) rfl (by simp_all [shapeV, lnShape, lnShapeT, sb]) (by repeat (first | exact Split.nil | apply Split.cons (by repeat (first | exact Fnd.here | apply Fnd.there))))
        · skip
          refine cw_seq ?_
          refine cw_region ?_
          refine ow_y (y_str_eqlD rfl rfl) ?_
          refine ow_y (y_assign rfl) ?_
          refine ow_nil ?_
          refine kw_code (fun _ _ h => h) ?_
          refine cw_if rfl (fun hb5 => ?_) (fun hb5 => ?_)
          · skip
            refine cw_skip ?_
            refine kw_code (fun _ _ h => h) ?_
            refine cw_true rfl hb5 ?_
            refine cw_seq ?_
            refine cw_region ?_
            refine ow_y (y_assign rfl) ?_
            refine ow_y (y_assign rfl) ?_
            refine ow_nil ?_
            refine kw_code (fun _ _ h => h) ?_
            refine cw_retG (fun _ _ h => h) rfl (by simp_all [shapeV, lnShape, lnShapeT, sb]) (by repeat (first | exact Split.nil | apply Split.cons (by repeat (first | exact Fnd.here | apply Fnd.there))))
          · skip
            refine cw_seq ?_
            refine cw_region ?_
            refine ow_y (y_str_eqlD rfl rfl) ?_
            refine ow_y (y_assign rfl) ?_
            refine ow_nil ?_
            refine kw_code (fun _ _ h => h) ?_
            refine cw_if rfl (fun hb5 => ?_) (fun hb5 => ?_)
            · skip
              refine cw_skip ?_
              refine kw_code (fun _ _ h => h) ?_
              refine cw_true rfl hb5 ?_
              refine cw_seq ?_
              refine cw_region ?_
              refine ow_y (y_assign rfl) ?_
              refine ow_y (y_assign rfl) ?_
              refine ow_nil ?_
              refine kw_code (fun _ _ h => h) ?_
              refine cw_retG (fun _ _ h => h) rfl (by simp_all [shapeV, lnShape, lnShapeT, sb]) (by repeat (first | exact Split.nil | apply Split.cons (by repeat (first | exact Fnd.here | apply Fnd.there))))
            · skip
              refine cw_region ?_
              refine ow_y (y_str_eqlD rfl rfl) ?_
              refine ow_y (y_assign rfl) ?_
              refine ow_nil ?_
              refine kw_code (fun _ _ h => h) ?_
              refine cw_if rfl (fun hb5 => ?_) (fun hb5 => ?_)
              · skip
                refine cw_seq ?_
                refine cw_region ?_
                refine ow_y (y_assign rfl) ?_
                refine ow_y (y_assign rfl) ?_
                refine ow_nil ?_
                refine kw_code (fun _ _ h => h) ?_
                refine cw_retG (fun _ _ h => h) rfl (by simp_all [shapeV, lnShape, lnShapeT, sb]) (by repeat (first | exact Split.nil | apply Split.cons (by repeat (first | exact Fnd.here | apply Fnd.there))))
              · skip
                refine cw_seq ?_
                refine cw_seq ?_
                refine cw_region ?_
                refine ow_y (y_str_eqlD rfl rfl) ?_
                refine ow_y (y_assign rfl) ?_
                refine ow_nil ?_
                refine kw_code (fun _ _ h => h) ?_
                refine cw_if rfl (fun hb13 => ?_) (fun hb13 => ?_)
                · skip
                  refine cw_skip ?_
                  refine kw_code (fun _ _ h => h) ?_
                  refine cw_true rfl hb13 ?_
                  refine cw_seq ?_
                  refine cw_region ?_
                  refine ow_y (y_assign rfl) ?_
                  refine ow_y (y_assign rfl) ?_
                  refine ow_nil ?_
                  refine kw_code (fun _ _ h => h) ?_
                  refine cw_retG (fun _ _ h => h) rfl (by simp_all [shapeV, lnShape, lnShapeT, sb]) (by repeat (first | exact Split.nil | apply Split.cons (by repeat (first | exact Fnd.here | apply Fnd.there))))
                · skip
                  refine cw_region ?_
                  refine ow_y (y_str_eqlD rfl rfl) ?_
                  refine ow_y (y_assign rfl) ?_
                  refine ow_nil ?_
                  refine kw_code (fun _ _ h => h) ?_
                  refine cw_if rfl (fun hb13 => ?_) (fun hb13 => ?_)
                  · skip
                    refine cw_seq ?_
                    refine cw_region ?_
                    refine ow_y (y_assign rfl) ?_
                    refine ow_y (y_assign rfl) ?_
                    refine ow_nil ?_
                    refine kw_code (fun _ _ h => h) ?_
                    refine cw_retG (fun _ _ h => h) rfl (by simp_all [shapeV, lnShape, lnShapeT, sb]) (by repeat (first | exact Split.nil | apply Split.cons (by repeat (first | exact Fnd.here | apply Fnd.there))))
                  · skip
                    refine cw_seq ?_
                    refine cw_seq ?_
                    refine cw_region ?_
                    refine ow_y (y_str_eqlD rfl rfl) ?_
                    refine ow_y (y_assign rfl) ?_
                    refine ow_nil ?_
                    refine kw_code (fun _ _ h => h) ?_
                    refine cw_if rfl (fun hb16 => ?_) (fun hb16 => ?_)
                    · skip
                      refine cw_skip ?_
                      refine kw_code (fun _ _ h => h) ?_
                      refine cw_true rfl hb16 ?_
                      refine cw_seq ?_
                      refine cw_region ?_
                      refine ow_y (y_assign rfl) ?_
                      refine ow_y (y_assign rfl) ?_
                      refine ow_nil ?_
                      refine kw_code (fun _ _ h => h) ?_
                      refine cw_retG (fun _ _ h => h) rfl (by simp_all [shapeV, lnShape, lnShapeT, sb]) (by repeat (first | exact Split.nil | apply Split.cons (by repeat (first | exact Fnd.here | apply Fnd.there))))
                    · skip
                      refine cw_region ?_
                      refine ow_y (y_str_eqlD rfl rfl) ?_
                      refine ow_y (y_assign rfl) ?_
                      refine ow_nil ?_
                      refine kw_code (fun _ _ h => h) ?_
                      refine cw_if rfl (fun hb16 => ?_) (fun hb16 => ?_)
                      · skip
                        refine cw_seq ?_
                        refine cw_region ?_
                        refine ow_y (y_assign rfl) ?_
                        refine ow_y (y_assign rfl) ?_
                        refine ow_nil ?_
                        refine kw_code (fun _ _ h => h) ?_
                        refine cw_retG (fun _ _ h => h) rfl (by simp_all [shapeV, lnShape, lnShapeT, sb]) (by repeat (first | exact Split.nil | apply Split.cons (by repeat (first | exact Fnd.here | apply Fnd.there))))
                      · skip
                        refine cw_seq ?_
                        refine cw_region ?_
                        refine ow_y (y_str_eqlD rfl rfl) ?_
                        refine ow_y (y_assign rfl) ?_
                        refine ow_nil ?_
                        refine kw_code (fun _ _ h => h) ?_
                        refine cw_if rfl (fun hb19 => ?_) (fun hb19 => ?_)
                        · skip
                          refine cw_seq ?_
                          refine cw_region ?_
                          refine ow_y (y_assign rfl) ?_
                          refine ow_y (y_assign rfl) ?_
                          refine ow_nil ?_
                          refine kw_code (fun _ _ h => h) ?_
                          refine cw_retG (fun _ _ h => h) rfl (by simp_all [shapeV, lnShape, lnShapeT, sb]) (by repeat (first | exact Split.nil | apply Split.cons (by repeat (first | exact Fnd.here | apply Fnd.there))))
                        · skip
                          refine cw_seq ?_
                          refine cw_region ?_
                          refine ow_y (y_str_eqlD rfl rfl) ?_
                          refine ow_y (y_assign rfl) ?_
                          refine ow_nil ?_
                          refine kw_code (fun _ _ h => h) ?_
                          refine cw_if rfl (fun hb21 => ?_) (fun hb21 => ?_)
                          · skip
                            refine cw_seq ?_
                            refine cw_region ?_
                            refine ow_y (y_assign rfl) ?_
                            refine ow_y (y_assign rfl) ?_
                            refine ow_nil ?_
                            refine kw_code (fun _ _ h => h) ?_
                            refine cw_retG (fun _ _ h => h) rfl (by simp_all [shapeV, lnShape, lnShapeT, sb]) (by repeat (first | exact Split.nil | apply Split.cons (by repeat (first | exact Fnd.here | apply Fnd.there))))
                          · skip
                            refine cw_seq ?_
                            refine cw_region ?_
                            refine ow_y (y_str_eqlD rfl rfl) ?_
                            refine ow_y (y_assign rfl) ?_
                            refine ow_nil ?_
                            refine kw_code (fun _ _ h => h) ?_
                            refine cw_if rfl (fun hb23 => ?_) (fun hb23 => ?_)
                            · skip
                              refine cw_seq ?_
                              refine cw_region ?_
                              refine ow_y (y_assign rfl) ?_
                              refine ow_y (y_assign rfl) ?_
                              refine ow_nil ?_
                              refine kw_code (fun _ _ h => h) ?_
                              refine cw_retG (fun _ _ h => h) rfl (by simp_all [shapeV, lnShape, lnShapeT, sb]) (by repeat (first | exact Split.nil | apply Split.cons (by repeat (first | exact Fnd.here | apply Fnd.there))))
                            · skip
                              refine cw_seq ?_
                              refine cw_region ?_
                              refine ow_y (y_str_eqlD rfl rfl) ?_
                              refine ow_y (y_assign rfl) ?_
                              refine ow_nil ?_
                              refine kw_code (fun _ _ h => h) ?_
                              refine cw_if rfl (fun hb25 => ?_) (fun hb25 => ?_)
                              · skip
                                refine cw_seq ?_
                                refine cw_region ?_
                                refine ow_y (y_assign rfl) ?_
                                refine ow_y (y_assign rfl) ?_
                                refine ow_nil ?_
                                refine kw_code (fun _ _ h => h) ?_
                                refine cw_retG (fun _ _ h => h) rfl (by simp_all [shapeV, lnShape, lnShapeT, sb]) (by repeat (first | exact Split.nil | apply Split.cons (by repeat (first | exact Fnd.here | apply Fnd.there))))
                              · skip
                                refine cw_seq ?_
                                refine cw_seq ?_
                                refine cw_region ?_
                                refine ow_y (y_str_eqlD rfl rfl) ?_
                                refine ow_y (y_assign rfl) ?_
                                refine ow_nil ?_
                                refine kw_code (fun _ _ h => h) ?_
                                refine cw_if rfl (fun hb27 => ?_) (fun hb27 => ?_)
                                · skip
                                  refine cw_skip ?_
                                  refine kw_code (fun _ _ h => h) ?_
                                  refine cw_true rfl hb27 ?_
                                  refine cw_seq ?_
                                  refine cw_region ?_
                                  refine ow_y (y_assign rfl) ?_
                                  refine ow_y (y_assign rfl) ?_
                                  refine ow_nil ?_
                                  refine kw_code (fun _ _ h => h) ?_
                                  refine cw_retG (fun _ _ h => h) rfl (by simp_all [shapeV, lnShape, lnShapeT, sb]) (by repeat (first | exact Split.nil | apply Split.cons (by repeat (first | exact Fnd.here | apply Fnd.there))))
                                · skip
                                  refine cw_seq ?_
                                  refine cw_region ?_
                                  refine ow_y (y_str_eqlD rfl rfl) ?_
                                  refine ow_y (y_assign rfl) ?_
                                  refine ow_nil ?_
                                  refine kw_code (fun _ _ h => h) ?_
                                  refine cw_if rfl (fun hb27 => ?_) (fun hb27 => ?_)
                                  · skip
                                    refine cw_skip ?_
                                    refine kw_code (fun _ _ h => h) ?_
                                    refine cw_true rfl hb27 ?_
                                    refine cw_seq ?_
                                    refine cw_region ?_
                                    refine ow_y (y_assign rfl) ?_
                                    refine ow_y (y_assign rfl) ?_
                                    refine ow_nil ?_
                                    refine kw_code (fun _ _ h => h) ?_
                                    refine cw_retG (fun _ _ h => h) rfl (by simp_all [shapeV, lnShape, lnShapeT, sb]) (by repeat (first | exact Split.nil | apply Split.cons (by repeat (first | exact Fnd.here | apply Fnd.there))))
                                  · skip
                                    refine cw_seq ?_
                                    refine cw_region ?_
                                    refine ow_y (y_str_eqlD rfl rfl) ?_
                                    refine ow_y (y_assign rfl) ?_
                                    refine ow_nil ?_
                                    refine kw_code (fun _ _ h => h) ?_
                                    refine cw_if rfl (fun hb27 => ?_) (fun hb27 => ?_)
                                    · skip
                                      refine cw_skip ?_
                                      refine kw_code (fun _ _ h => h) ?_
                                      refine cw_true rfl hb27 ?_
                                      refine cw_seq ?_
                                      refine cw_region ?_
                                      refine ow_y (y_assign rfl) ?_
                                      refine ow_y (y_assign rfl) ?_
                                      refine ow_nil ?_
                                      refine kw_code (fun _ _ h => h) ?_
                                      refine cw_retG (fun _ _ h => h) rfl (by simp_all [shapeV, lnShape, lnShapeT, sb]) (by repeat (first | exact Split.nil | apply Split.cons (by repeat (first | exact Fnd.here | apply Fnd.there))))
                                    · skip
                                      refine cw_seq ?_
                                      refine cw_region ?_
                                      refine ow_y (y_str_eqlD rfl rfl) ?_
                                      refine ow_y (y_assign rfl) ?_
                                      refine ow_nil ?_
                                      refine kw_code (fun _ _ h => h) ?_
                                      refine cw_if rfl (fun hb27 => ?_) (fun hb27 => ?_)
                                      · skip
                                        refine cw_skip ?_
                                        refine kw_code (fun _ _ h => h) ?_
                                        refine cw_true rfl hb27 ?_
                                        refine cw_seq ?_
                                        refine cw_region ?_
                                        refine ow_y (y_assign rfl) ?_
                                        refine ow_y (y_assign rfl) ?_
                                        refine ow_nil ?_
                                        refine kw_code (fun _ _ h => h) ?_
                                        refine cw_retG (fun _ _ h => h) rfl (by simp_all [shapeV, lnShape, lnShapeT, sb]) (by repeat (first | exact Split.nil | apply Split.cons (by repeat (first | exact Fnd.here | apply Fnd.there))))
                                      · skip
                                        refine cw_seq ?_
                                        refine cw_region ?_
                                        refine ow_y (y_str_eqlD rfl rfl) ?_
                                        refine ow_y (y_assign rfl) ?_
                                        refine ow_nil ?_
                                        refine kw_code (fun _ _ h => h) ?_
                                        refine cw_if rfl (fun hb27 => ?_) (fun hb27 => ?_)
                                        · skip
                                          refine cw_skip ?_
                                          refine kw_code (fun _ _ h => h) ?_
                                          refine cw_true rfl hb27 ?_
                                          refine cw_seq ?_
                                          refine cw_region ?_
                                          refine ow_y (y_assign rfl) ?_
                                          refine ow_y (y_assign rfl) ?_
                                          refine ow_nil ?_
                                          refine kw_code (fun _ _ h => h) ?_
                                          refine cw_retG (fun _ _ h => h) rfl (by simp_all [shapeV, lnShape, lnShapeT, sb]) (by repeat (first | exact Split.nil | apply Split.cons (by repeat (first | exact Fnd.here | apply Fnd.there))))
                                        · skip
                                          refine cw_region ?_
                                          refine ow_y (y_str_eqlD rfl rfl) ?_
                                          refine ow_y (y_assign rfl) ?_
                                          refine ow_nil ?_
                                          refine kw_code (fun _ _ h => h) ?_
                                          refine cw_if rfl (fun hb27 => ?_) (fun hb27 => ?_)
                                          · skip
                                            refine cw_seq ?_
                                            refine cw_region ?_
                                            refine ow_y (y_assign rfl) ?_
                                            refine ow_y (y_assign rfl) ?_
                                            refine ow_nil ?_
                                            refine kw_code (fun _ _ h => h) ?_
                                            refine cw_retG (fun _ _ h => h) rfl (by simp_all [shapeV, lnShape, lnShapeT, sb]) (by repeat (first | exact Split.nil | apply Split.cons (by repeat (first | exact Fnd.here | apply Fnd.there))))
                                          · skip
                                            refine cw_skip ?_
                                            refine kw_code (fun _ _ h => h) ?_
                                            refine cw_seq ?_
                                            refine cw_region ?_
                                            refine ow_y (y_assign rfl) ?_
                                            refine ow_y (y_assign rfl) ?_
                                            refine ow_nil ?_
                                            refine kw_code (fun _ _ h => h) ?_
                                            refine cw_retG (fun _ _ h => h) rfl (by simp_all [shapeV, lnShape, lnShapeT, sb]) (by repeat (first | exact Split.nil | apply Split.cons (by repeat (first | exact Fnd.here | apply Fnd.there))))
theorem rshape_spec (s : ByteArray) : Does Tryd.prog 23 #[.string s] [] (Gives (rshapeV s) []) := by
  refine does_enter Tryd.func23 rfl Tryd.ntmps23 rfl (fun R w0 => ?_)
  simp only [envOf, List.cons_append, List.nil_append]
  refine cw_seq ?_
  refine cw_region ?_
  refine ow_y (y_assign rfl) ?_
  refine ow_y (y_assign rfl) ?_
  refine ow_y (y_assign rfl) ?_
  refine ow_nil ?_
  refine kw_code (fun _ _ h => h) ?_
  refine cw_seq ?_
  refine cw_seq ?_
  refine cw_region ?_
  refine ow_y (y_move rfl) ?_
  refine ow_nil ?_
  refine kw_code (fun _ _ h => h) ?_
  refine cw_block ?_
  refine cw_seq ?_
  refine cw_seq ?_
  refine cw_region ?_
  refine ow_y (y_str_eqlD rfl rfl) ?_
  refine ow_y (y_assign rfl) ?_
  refine ow_nil ?_
  refine kw_code (fun _ _ h => h) ?_
  refine cw_if rfl (fun hb6 => ?_) (fun hb6 => ?_)
  · skip
    refine cw_skip ?_
    refine kw_code (fun _ _ h => h) ?_
    refine cw_true rfl hb6 ?_
    refine cw_seq ?_
    refine cw_region ?_
    refine ow_y (y_assign rfl) ?_
    refine ow_y (y_assign rfl) ?_
    refine ow_y (y_assign rfl) ?_
    refine ow_nil ?_
    refine kw_code (fun _ _ h => h) ?_
    refine cw_retG (fun _ _ h => h) rfl (by simp_all [rshapeV, lnShape]) (by repeat (first | exact Split.nil | apply Split.cons (by repeat (first | exact Fnd.here | apply Fnd.there))))
  · skip
    refine cw_seq ?_
    refine cw_region ?_
    refine ow_y (y_str_eqlD rfl rfl) ?_
    refine ow_y (y_assign rfl) ?_
    refine ow_nil ?_
    refine kw_code (fun _ _ h => h) ?_
    refine cw_if rfl (fun hb6 => ?_) (fun hb6 => ?_)
    · skip
      refine cw_skip ?_
      refine kw_code (fun _ _ h => h) ?_
      refine cw_true rfl hb6 ?_
      refine cw_seq ?_
      refine cw_region ?_
      refine ow_y (y_assign rfl) ?_
      refine ow_y (y_assign rfl) ?_
      refine ow_y (y_assign rfl) ?_
      refine ow_nil ?_
      refine kw_code (fun _ _ h => h) ?_
      refine cw_retG (fun _ _ h => h) rfl (by simp_all [rshapeV, lnShape]) (by repeat (first | exact Split.nil | apply Split.cons (by repeat (first | exact Fnd.here | apply Fnd.there))))
    · skip
      refine cw_seq ?_
      refine cw_region ?_
      refine ow_y (y_str_eqlD rfl rfl) ?_
      refine ow_y (y_assign rfl) ?_
      refine ow_nil ?_
      refine kw_code (fun _ _ h => h) ?_
      refine cw_if rfl (fun hb6 => ?_) (fun hb6 => ?_)
      · skip
        refine cw_skip ?_
        refine kw_code (fun _ _ h => h) ?_
        refine cw_true rfl hb6 ?_
        refine cw_seq ?_
        refine cw_region ?_
        refine ow_y (y_assign rfl) ?_
        refine ow_y (y_assign rfl) ?_
        refine ow_y (y_assign rfl) ?_
        refine ow_nil ?_
        refine kw_code (fun _ _ h => h) ?_
        refine cw_retG (fun _ _ h => h) rfl (by simp_all [rshapeV, lnShape]) (by repeat (first | exact Split.nil | apply Split.cons (by repeat (first | exact Fnd.here | apply Fnd.there))))
      · skip
        refine cw_seq ?_
        refine cw_region ?_
        refine ow_y (y_str_eqlD rfl rfl) ?_
        refine ow_y (y_assign rfl) ?_
        refine ow_nil ?_
        refine kw_code (fun _ _ h => h) ?_
        refine cw_if rfl (fun hb6 => ?_) (fun hb6 => ?_)
        · skip
          refine cw_skip ?_
          refine kw_code (fun _ _ h => h) ?_
          refine cw_true rfl hb6 ?_
          refine cw_seq ?_
          refine cw_region ?_
          refine ow_y (y_assign rfl) ?_
          refine ow_y (y_assign rfl) ?_
          refine ow_y (y_assign rfl) ?_
          refine ow_nil ?_
          refine kw_code (fun _ _ h => h) ?_
          refine cw_retG (fun _ _ h => h) rfl (by simp_all [rshapeV, lnShape]) (by repeat (first | exact Split.nil | apply Split.cons (by repeat (first | exact Fnd.here | apply Fnd.there))))
        · skip
          refine cw_seq ?_
          refine cw_region ?_
          refine ow_y (y_str_eqlD rfl rfl) ?_
          refine ow_y (y_assign rfl) ?_
          refine ow_nil ?_
          refine kw_code (fun _ _ h => h) ?_
          refine cw_if rfl (fun hb6 => ?_) (fun hb6 => ?_)
          · skip
            refine cw_skip ?_
            refine kw_code (fun _ _ h => h) ?_
            refine cw_true rfl hb6 ?_
            refine cw_seq ?_
            refine cw_region ?_
            refine ow_y (y_assign rfl) ?_
            refine ow_y (y_assign rfl) ?_
            refine ow_y (y_assign rfl) ?_
            refine ow_nil ?_
            refine kw_code (fun _ _ h => h) ?_
            refine cw_retG (fun _ _ h => h) rfl (by simp_all [rshapeV, lnShape]) (by repeat (first | exact Split.nil | apply Split.cons (by repeat (first | exact Fnd.here | apply Fnd.there))))
          · skip
            refine cw_seq ?_
            refine cw_region ?_
            refine ow_y (y_str_eqlD rfl rfl) ?_
            refine ow_y (y_assign rfl) ?_
            refine ow_nil ?_
            refine kw_code (fun _ _ h => h) ?_
            refine cw_if rfl (fun hb6 => ?_) (fun hb6 => ?_)
            · skip
              refine cw_skip ?_
              refine kw_code (fun _ _ h => h) ?_
              refine cw_true rfl hb6 ?_
              refine cw_seq ?_
              refine cw_region ?_
              refine ow_y (y_assign rfl) ?_
              refine ow_y (y_assign rfl) ?_
              refine ow_y (y_assign rfl) ?_
              refine ow_nil ?_
              refine kw_code (fun _ _ h => h) ?_
              refine cw_retG (fun _ _ h => h) rfl (by simp_all [rshapeV, lnShape]) (by repeat (first | exact Split.nil | apply Split.cons (by repeat (first | exact Fnd.here | apply Fnd.there))))
            · skip
              refine cw_region ?_
              refine ow_y (y_str_eqlD rfl rfl) ?_
              refine ow_y (y_assign rfl) ?_
              refine ow_nil ?_
              refine kw_code (fun _ _ h => h) ?_
              refine cw_if rfl (fun hb6 => ?_) (fun hb6 => ?_)
              · skip
                refine cw_seq ?_
                refine cw_region ?_
                refine ow_y (y_assign rfl) ?_
                refine ow_y (y_assign rfl) ?_
                refine ow_y (y_assign rfl) ?_
                refine ow_nil ?_
                refine kw_code (fun _ _ h => h) ?_
                refine cw_retG (fun _ _ h => h) rfl (by simp_all [rshapeV, lnShape]) (by repeat (first | exact Split.nil | apply Split.cons (by repeat (first | exact Fnd.here | apply Fnd.there))))
              · skip
                refine cw_seq ?_
                refine cw_seq ?_
                refine cw_region ?_
                refine ow_y (y_str_eqlD rfl rfl) ?_
                refine ow_y (y_assign rfl) ?_
                refine ow_nil ?_
                refine kw_code (fun _ _ h => h) ?_
                refine cw_if rfl (fun hb14 => ?_) (fun hb14 => ?_)
                · skip
                  refine cw_skip ?_
                  refine kw_code (fun _ _ h => h) ?_
                  refine cw_true rfl hb14 ?_
                  refine cw_seq ?_
                  refine cw_region ?_
                  refine ow_y (y_assign rfl) ?_
                  refine ow_y (y_assign rfl) ?_
                  refine ow_y (y_assign rfl) ?_
                  refine ow_nil ?_
                  refine kw_code (fun _ _ h => h) ?_
                  refine cw_retG (fun _ _ h => h) rfl (by simp_all [rshapeV, lnShape]) (by repeat (first | exact Split.nil | apply Split.cons (by repeat (first | exact Fnd.here | apply Fnd.there))))
                · skip
                  refine cw_region ?_
                  refine ow_y (y_str_eqlD rfl rfl) ?_
                  refine ow_y (y_assign rfl) ?_
                  refine ow_nil ?_
                  refine kw_code (fun _ _ h => h) ?_
                  refine cw_if rfl (fun hb14 => ?_) (fun hb14 => ?_)
                  · skip
                    refine cw_seq ?_
                    refine cw_region ?_
                    refine ow_y (y_assign rfl) ?_
                    refine ow_y (y_assign rfl) ?_
                    refine ow_y (y_assign rfl) ?_
                    refine ow_nil ?_
                    refine kw_code (fun _ _ h => h) ?_
                    refine cw_retG (fun _ _ h => h) rfl (by simp_all [rshapeV, lnShape]) (by repeat (first | exact Split.nil | apply Split.cons (by repeat (first | exact Fnd.here | apply Fnd.there))))
                  · skip
                    refine cw_seq ?_
                    refine cw_seq ?_
                    refine cw_region ?_
                    refine ow_y (y_str_eqlD rfl rfl) ?_
                    refine ow_y (y_assign rfl) ?_
                    refine ow_nil ?_
                    refine kw_code (fun _ _ h => h) ?_
                    refine cw_if rfl (fun hb17 => ?_) (fun hb17 => ?_)
                    · skip
                      refine cw_skip ?_
                      refine kw_code (fun _ _ h => h) ?_
                      refine cw_true rfl hb17 ?_
                      refine cw_seq ?_
                      refine cw_region ?_
                      refine ow_y (y_assign rfl) ?_
                      refine ow_y (y_assign rfl) ?_
                      refine ow_y (y_assign rfl) ?_
                      refine ow_nil ?_
                      refine kw_code (fun _ _ h => h) ?_
                      refine cw_retG (fun _ _ h => h) rfl (by simp_all [rshapeV, lnShape]) (by repeat (first | exact Split.nil | apply Split.cons (by repeat (first | exact Fnd.here | apply Fnd.there))))
                    · skip
                      refine cw_region ?_
                      refine ow_y (y_str_eqlD rfl rfl) ?_
                      refine ow_y (y_assign rfl) ?_
                      refine ow_nil ?_
                      refine kw_code (fun _ _ h => h) ?_
                      refine cw_if rfl (fun hb17 => ?_) (fun hb17 => ?_)
                      · skip
                        refine cw_seq ?_
                        refine cw_region ?_
                        refine ow_y (y_assign rfl) ?_
                        refine ow_y (y_assign rfl) ?_
                        refine ow_y (y_assign rfl) ?_
                        refine ow_nil ?_
                        refine kw_code (fun _ _ h => h) ?_
                        refine cw_retG (fun _ _ h => h) rfl (by simp_all [rshapeV, lnShape]) (by repeat (first | exact Split.nil | apply Split.cons (by repeat (first | exact Fnd.here | apply Fnd.there))))
                      · skip
                        refine cw_seq ?_
                        refine cw_region ?_
                        refine ow_y (y_str_eqlD rfl rfl) ?_
                        refine ow_y (y_assign rfl) ?_
                        refine ow_nil ?_
                        refine kw_code (fun _ _ h => h) ?_
                        refine cw_if rfl (fun hb20 => ?_) (fun hb20 => ?_)
                        · skip
                          refine cw_seq ?_
                          refine cw_region ?_
                          refine ow_y (y_assign rfl) ?_
                          refine ow_y (y_assign rfl) ?_
                          refine ow_y (y_assign rfl) ?_
                          refine ow_nil ?_
                          refine kw_code (fun _ _ h => h) ?_
                          refine cw_retG (fun _ _ h => h) rfl (by simp_all [rshapeV, lnShape]) (by repeat (first | exact Split.nil | apply Split.cons (by repeat (first | exact Fnd.here | apply Fnd.there))))
                        · skip
                          refine cw_seq ?_
                          refine cw_region ?_
                          refine ow_y (y_str_eqlD rfl rfl) ?_
                          refine ow_y (y_assign rfl) ?_
                          refine ow_nil ?_
                          refine kw_code (fun _ _ h => h) ?_
                          refine cw_if rfl (fun hb22 => ?_) (fun hb22 => ?_)
                          · skip
                            refine cw_seq ?_
                            refine cw_region ?_
                            refine ow_y (y_assign rfl) ?_
                            refine ow_y (y_assign rfl) ?_
                            refine ow_y (y_assign rfl) ?_
                            refine ow_nil ?_
                            refine kw_code (fun _ _ h => h) ?_
                            refine cw_retG (fun _ _ h => h) rfl (by simp_all [rshapeV, lnShape]) (by repeat (first | exact Split.nil | apply Split.cons (by repeat (first | exact Fnd.here | apply Fnd.there))))
                          · skip
                            refine cw_seq ?_
                            refine cw_region ?_
                            refine ow_y (y_str_eqlD rfl rfl) ?_
                            refine ow_y (y_assign rfl) ?_
                            refine ow_nil ?_
                            refine kw_code (fun _ _ h => h) ?_
                            refine cw_if rfl (fun hb24 => ?_) (fun hb24 => ?_)
                            · skip
                              refine cw_seq ?_
                              refine cw_region ?_
                              refine ow_y (y_assign rfl) ?_
                              refine ow_y (y_assign rfl) ?_
                              refine ow_y (y_assign rfl) ?_
                              refine ow_nil ?_
                              refine kw_code (fun _ _ h => h) ?_
                              refine cw_retG (fun _ _ h => h) rfl (by simp_all [rshapeV, lnShape]) (by repeat (first | exact Split.nil | apply Split.cons (by repeat (first | exact Fnd.here | apply Fnd.there))))
                            · skip
                              refine cw_seq ?_
                              refine cw_region ?_
                              refine ow_y (y_str_eqlD rfl rfl) ?_
                              refine ow_y (y_assign rfl) ?_
                              refine ow_nil ?_
                              refine kw_code (fun _ _ h => h) ?_
                              refine cw_if rfl (fun hb26 => ?_) (fun hb26 => ?_)
                              · skip
                                refine cw_seq ?_
                                refine cw_region ?_
                                refine ow_y (y_assign rfl) ?_
                                refine ow_y (y_assign rfl) ?_
                                refine ow_y (y_assign rfl) ?_
                                refine ow_nil ?_
                                refine kw_code (fun _ _ h => h) ?_
                                refine cw_retG (fun _ _ h => h) rfl (by simp_all [rshapeV, lnShape]) (by repeat (first | exact Split.nil | apply Split.cons (by repeat (first | exact Fnd.here | apply Fnd.there))))
                              · skip
                                refine cw_seq ?_
                                refine cw_seq ?_
                                refine cw_region ?_
                                refine ow_y (y_str_eqlD rfl rfl) ?_
                                refine ow_y (y_assign rfl) ?_
                                refine ow_nil ?_
                                refine kw_code (fun _ _ h => h) ?_
                                refine cw_if rfl (fun hb28 => ?_) (fun hb28 => ?_)
                                · skip
                                  refine cw_skip ?_
                                  refine kw_code (fun _ _ h => h) ?_
                                  refine cw_true rfl hb28 ?_
                                  refine cw_seq ?_
                                  refine cw_region ?_
                                  refine ow_y (y_assign rfl) ?_
                                  refine ow_y (y_assign rfl) ?_
                                  refine ow_y (y_assign rfl) ?_
                                  refine ow_nil ?_
                                  refine kw_code (fun _ _ h => h) ?_
                                  refine cw_retG (fun _ _ h => h) rfl (by simp_all [rshapeV, lnShape]) (by repeat (first | exact Split.nil | apply Split.cons (by repeat (first | exact Fnd.here | apply Fnd.there))))
                                · skip
                                  refine cw_seq ?_
                                  refine cw_region ?_
                                  refine ow_y (y_str_eqlD rfl rfl) ?_
                                  refine ow_y (y_assign rfl) ?_
                                  refine ow_nil ?_
                                  refine kw_code (fun _ _ h => h) ?_
                                  refine cw_if rfl (fun hb28 => ?_) (fun hb28 => ?_)
                                  · skip
                                    refine cw_skip ?_
                                    refine kw_code (fun _ _ h => h) ?_
                                    refine cw_true rfl hb28 ?_
                                    refine cw_seq ?_
                                    refine cw_region ?_
                                    refine ow_y (y_assign rfl) ?_
                                    refine ow_y (y_assign rfl) ?_
                                    refine ow_y (y_assign rfl) ?_
                                    refine ow_nil ?_
                                    refine kw_code (fun _ _ h => h) ?_
                                    refine cw_retG (fun _ _ h => h) rfl (by simp_all [rshapeV, lnShape]) (by repeat (first | exact Split.nil | apply Split.cons (by repeat (first | exact Fnd.here | apply Fnd.there))))
                                  · skip
                                    refine cw_seq ?_
                                    refine cw_region ?_
                                    refine ow_y (y_str_eqlD rfl rfl) ?_
                                    refine ow_y (y_assign rfl) ?_
                                    refine ow_nil ?_
                                    refine kw_code (fun _ _ h => h) ?_
                                    refine cw_if rfl (fun hb28 => ?_) (fun hb28 => ?_)
                                    · skip
                                      refine cw_skip ?_
                                      refine kw_code (fun _ _ h => h) ?_
                                      refine cw_true rfl hb28 ?_
                                      refine cw_seq ?_
                                      refine cw_region ?_
                                      refine ow_y (y_assign rfl) ?_
                                      refine ow_y (y_assign rfl) ?_
                                      refine ow_y (y_assign rfl) ?_
                                      refine ow_nil ?_
                                      refine kw_code (fun _ _ h => h) ?_
                                      refine cw_retG (fun _ _ h => h) rfl (by simp_all [rshapeV, lnShape]) (by repeat (first | exact Split.nil | apply Split.cons (by repeat (first | exact Fnd.here | apply Fnd.there))))
                                    · skip
                                      refine cw_seq ?_
                                      refine cw_region ?_
                                      refine ow_y (y_str_eqlD rfl rfl) ?_
                                      refine ow_y (y_assign rfl) ?_
                                      refine ow_nil ?_
                                      refine kw_code (fun _ _ h => h) ?_
                                      refine cw_if rfl (fun hb28 => ?_) (fun hb28 => ?_)
                                      · skip
                                        refine cw_skip ?_
                                        refine kw_code (fun _ _ h => h) ?_
                                        refine cw_true rfl hb28 ?_
                                        refine cw_seq ?_
                                        refine cw_region ?_
                                        refine ow_y (y_assign rfl) ?_
                                        refine ow_y (y_assign rfl) ?_
                                        refine ow_y (y_assign rfl) ?_
                                        refine ow_nil ?_
                                        refine kw_code (fun _ _ h => h) ?_
                                        refine cw_retG (fun _ _ h => h) rfl (by simp_all [rshapeV, lnShape]) (by repeat (first | exact Split.nil | apply Split.cons (by repeat (first | exact Fnd.here | apply Fnd.there))))
                                      · skip
                                        refine cw_seq ?_
                                        refine cw_region ?_
                                        refine ow_y (y_str_eqlD rfl rfl) ?_
                                        refine ow_y (y_assign rfl) ?_
                                        refine ow_nil ?_
                                        refine kw_code (fun _ _ h => h) ?_
                                        refine cw_if rfl (fun hb28 => ?_) (fun hb28 => ?_)
                                        · skip
                                          refine cw_skip ?_
                                          refine kw_code (fun _ _ h => h) ?_
                                          refine cw_true rfl hb28 ?_
                                          refine cw_seq ?_
                                          refine cw_region ?_
                                          refine ow_y (y_assign rfl) ?_
                                          refine ow_y (y_assign rfl) ?_
                                          refine ow_y (y_assign rfl) ?_
                                          refine ow_nil ?_
                                          refine kw_code (fun _ _ h => h) ?_
                                          refine cw_retG (fun _ _ h => h) rfl (by simp_all [rshapeV, lnShape]) (by repeat (first | exact Split.nil | apply Split.cons (by repeat (first | exact Fnd.here | apply Fnd.there))))
                                        · skip
                                          refine cw_region ?_
                                          refine ow_y (y_str_eqlD rfl rfl) ?_
                                          refine ow_y (y_assign rfl) ?_
                                          refine ow_nil ?_
                                          refine kw_code (fun _ _ h => h) ?_
                                          refine cw_if rfl (fun hb28 => ?_) (fun hb28 => ?_)
                                          · skip
                                            refine cw_seq ?_
                                            refine cw_region ?_
                                            refine ow_y (y_assign rfl) ?_
                                            refine ow_y (y_assign rfl) ?_
                                            refine ow_y (y_assign rfl) ?_
                                            refine ow_nil ?_
                                            refine kw_code (fun _ _ h => h) ?_
                                            refine cw_retG (fun _ _ h => h) rfl (by simp_all [rshapeV, lnShape]) (by repeat (first | exact Split.nil | apply Split.cons (by repeat (first | exact Fnd.here | apply Fnd.there))))
                                          · skip
                                            refine cw_skip ?_
                                            refine kw_code (fun _ _ h => h) ?_
                                            refine cw_seq ?_
                                            refine cw_region ?_
                                            refine ow_y (y_assign rfl) ?_
                                            refine ow_y (y_assign rfl) ?_
                                            refine ow_y (y_assign rfl) ?_
                                            refine ow_nil ?_
                                            refine kw_code (fun _ _ h => h) ?_
                                            refine cw_retG (fun _ _ h => h) rfl (by simp_all [rshapeV, lnShape]) (by repeat (first | exact Split.nil | apply Split.cons (by repeat (first | exact Fnd.here | apply Fnd.there))))
end Go.Proofs.YtoolmpfkbaffcaaDoor
