/- Keys that are rows of bytes. -/
import Derived.Test.YtoolmpfkbaffcaaDoorSlRow
import Derived.DeepKeys4
set_option linter.all false
namespace Go.Sl
open Go.Sb
open Go.WideMaps
theorem mapM_all {α β : Type} {f : α → Option β} {g : α → β} : ∀ {l : List α}, (∀ x ∈ l, f x = some (g x)) → l.mapM f = some (l.map g)
  | [], _ => rfl
  | x :: l, h => by
    rw [List.mapM_cons, h x (by simp), mapM_all (l := l) fun y hy => h y (by simp [hy])]
    rfl
theorem lit_byte (b : UInt8) : (Lit.int .u8 (b.toNat : Int)).wf = true := by
  have := b.toNat_lt
  simp only [Lit.wf, IntKind.min, IntKind.max, IntKind.bits, IntKind.signed, Bool.and_eq_true, decide_eq_true_eq]
  simp
  omega
/-- closed facts on such a type -/
def tyKeyArr (P : Program) (k n e : Nat) : Bool := tyArray P k n e 1 && (tyBy P e && (P.keyType k && (P.cellsOf k == n && (P.cellsOf e == 1 && (!(P.types.size == 0) && (P.keyTypeAt 2 k && P.tiled 2 k))))))
theorem keyOf_arr {P : Program} {k n e : Nat} (ht : tyKeyArr P k n e = true) {x : B} (hx : x.length = n) : ∃ l, keyOf P k (.agg (x.map byteV).toArray) = some l := by
  simp only [tyKeyArr, Bool.and_eq_true, beq_iff_eq, Bool.not_eq_true', beq_eq_false_iff_ne] at ht
  obtain ⟨h1, h2, h3, h4, h5, h6, _⟩ := ht
  obtain ⟨m, hm⟩ : ∃ m, P.types.size = m + 1 := ⟨P.types.size - 1, by omega⟩
  simp only [tyArray, Bool.and_eq_true] at h1
  obtain ⟨h1, _⟩ := h1
  split at h1
  case h_2 => cases h1
  rename_i l e' hu
  simp only [Bool.and_eq_true, beq_iff_eq] at h1
  obtain ⟨rfl, rfl⟩ := h1
  unfold tyBy at h2
  split at h2
  case h_2 => cases h2
  rename_i hue
  have hl : ((List.range l).mapM fun i => P.keyLits (m + 1) e' (((x.map byteV).drop (i * 1)).take 1)) = some ((List.range l).map fun i => [Lit.int .u8 ((x.getD i 0).toNat : Int)]) := by
    refine mapM_all fun i hi => ?_
    have hi' := List.mem_range.1 hi
    have e1 : ((x.map byteV).drop (i * 1)).take 1 = [byteV (x.getD i 0)] := by
      rw [Nat.mul_one, List.take_one, List.head?_drop, List.getElem?_map, List.getElem?_eq_getElem (by omega)]
      simp [List.getD_eq_getElem?_getD, List.getElem?_eq_getElem (show i < x.length by omega)]
    rw [e1]
    simp [Program.keyLits, hue, byteV, lit_byte]
  refine ⟨.string (keyBytes ((List.range l).map fun i => [Lit.int .u8 ((x.getD i 0).toNat : Int)]).flatten), ?_⟩
  unfold keyOf
  rw [hu]
  have hf : (Value.agg (x.map byteV).toArray).formed P k = true := by
    simp [Value.formed, hu, h4, hx]
  simp only [h3, hf, Bool.and_self, if_true]
  rw [hm]
  unfold Program.keyLits
  rw [hu]
  simp only [Value.cells, h4, h5, List.length_map, hx, hl, if_true, Option.map_some]
theorem byteV_inj {x y : B} (h : x.map byteV = y.map byteV) : x = y := by
  induction x generalizing y with
  | nil => cases y with
    | nil => rfl
    | cons b y => simp at h
  | cons a x ih =>
    cases y with
    | nil => simp at h
    | cons b y =>
      simp only [List.map_cons, List.cons.injEq, byteV, Value.int.injEq, true_and] at h
      rw [ih h.2, show a = b from UInt8.toNat_inj.1 (by omega)]
theorem keyR_arr {P : Program} {k n e : Nat} (ht : tyKeyArr P k n e = true) : KeyR P k (fun l : B => .agg (l.map byteV).toArray) (fun l => l.length = n) := by
  have ht' := ht
  simp only [tyKeyArr, Bool.and_eq_true, beq_iff_eq, Bool.not_eq_true', beq_eq_false_iff_ne] at ht
  obtain ⟨h1, h2, h3, h4, h5, h6, h7, h8⟩ := ht
  have hw : (match P.underlying k with | some (.array _ _) | some (.struct _) => true | _ => false) = true := by
    simp only [tyArray, Bool.and_eq_true] at h1
    obtain ⟨h1, _⟩ := h1
    split at h1
    · rename_i h; rw [h]
    · cases h1
  have law := deep_law (P := P) (m := 2) (by omega) h7 h8 hw
  refine ⟨fun w em x hx => ?_, fun w x m hx hm => ?_, fun w x hx => ?_⟩
  · obtain ⟨l, hl⟩ := keyOf_arr ht' hx
    exact law.check w em hl
  · obtain ⟨lx, hlx⟩ := keyOf_arr ht' hx
    have hun : ∃ td, P.underlying k = some td ∧ ∀ es, Instr.findNow td (.agg (x.map byteV).toArray) es 0 = (match es with | [] => some none | _ => none) := by
      simp only [tyArray, Bool.and_eq_true] at h1
      obtain ⟨h1, _⟩ := h1
      split at h1
      · rename_i h; exact ⟨_, h, fun es => by cases es <;> simp [Instr.findNow, Instr.sameNow]⟩
      · cases h1
    obtain ⟨td, hu, hfn⟩ := hun
    have hask : ∀ (m : List (B × MapEntry)), (∀ p ∈ m, p.1.length = n ∧ p.2.key = .agg (p.1.map byteV).toArray) → ∀ i, (Instr.findAsking k (.agg (x.map byteV).toArray) (m.map (·.2)) i).run P w = .ok ((m.findIdx? (fun p => decide (p.1 = x))).bind fun j => (m[j]?).map fun p => (j + i, p.2.val)) w := by
      intro m
      induction m with
      | nil => intro _ i; simp [Instr.findAsking]
      | cons p m ih =>
        intro hm i
        obtain ⟨hp1, hp2⟩ := hm p (by simp)
        obtain ⟨lp, hlp⟩ := keyOf_arr ht' hp1
        obtain ⟨r, hr, hiff⟩ := run_equal_deep (P := P) w (m := 2) (by omega) h7 hw hlx hlp
        have hrx : r = decide (p.1 = x) := by
          by_cases e : p.1 = x
          · simp only [e, decide_true]
            rw [e] at hlp
            exact hiff.2 (Option.some.inj (hlx.symm.trans hlp))
          · simp only [e, decide_false]
            cases hrb : r with
            | false => rfl
            | true =>
              exfalso
              have h9 := hiff.1 hrb
              rw [← h9] at hlp
              have h10 := law.inj hlx hlp
              simp only [Value.agg.injEq] at h10
              exact e (byteV_inj (by simpa using congrArg Array.toList h10)).symm
        simp only [List.map_cons, Instr.findAsking, hp2, Sem.run_bind, hr, Result.andThen_ok, List.findIdx?_cons]
        by_cases e : p.1 = x
        · simp [hrx, e]
        · simp only [hrx, e, decide_false, Bool.false_eq_true, if_false]
          rw [ih (fun q hq => hm q (by simp [hq])) (i + 1)]
          cases m.findIdx? (fun p => decide (p.1 = x)) with
          | none => simp
          | some j =>
            simp only [Option.bind_some, Option.map_some, List.getElem?_cons_succ]
            rw [show j + (i + 1) = j + 1 + i by omega]
    simp only [Instr.findKey, Sem.run_bind, run_underlying hu, Result.andThen_ok, hfn]
    cases m with
    | nil => simp
    | cons p m =>
      simp only [List.map_cons]
      exact hask (p :: m) hm 0
  · obtain ⟨l, hl⟩ := keyOf_arr ht' hx
    exact law.stays w hl
end Go.Sl
