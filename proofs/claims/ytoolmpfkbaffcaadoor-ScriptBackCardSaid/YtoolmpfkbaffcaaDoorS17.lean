/- Part of the proof; no statement of its own: S17. -/
import Derived.Test.YtoolmpfkbaffcaaDoorFacts
import Derived.Test.YtoolmpfkbaffcaaDoorS16
set_option linter.all false
set_option maxRecDepth 4000
set_option maxHeartbeats 4000000
namespace Go.Proofs.YtoolmpfkbaffcaaDoor
open Go.Sl Go.Sc Go.RowKit
def crashS : ByteArray := ⟨#[99, 114, 97, 115, 104]⟩
theorem crash_only (i : Nat) (h : i < 21) (w : Bool) (hs : lnShape (verbsL.getD i ByteArray.empty) = some (none, w)) : verbsL.getD i ByteArray.empty = crashS := by
  have hall : (List.range 21).all (fun i => match lnShape (verbsL.getD i ByteArray.empty) with | some (none, _) => decide (verbsL.getD i ByteArray.empty = crashS) | _ => true) = true := by decide +kernel
  have := List.all_eq_true.1 hall i (List.mem_range.2 h)
  rw [hs] at this
  exact of_decide_eq_true this
theorem join_len (m : Nat) : ∀ (ws : List (List UInt8)), (∀ x ∈ ws, x.length ≤ m) → (Lib.join ws [32]).length ≤ ws.length * (m + 1)
  | [], _ => by simp [Lib.join]
  | x :: r, h => by
    have hx := h x (List.mem_cons_self ..)
    by_cases hr : r = []
    · subst hr; rw [Lib.join_one]; simp; omega
    · have ih := join_len m r (fun y hy => h y (List.mem_cons_of_mem _ hy))
      rw [join_cons2 _ _ _ hr]
      simp only [List.length_append, List.length_cons, List.length_nil]
      rw [Nat.succ_mul]; omega
theorem itoa_len (z : Int) (h1 : z ≤ 1000000) (h2 : -1000000 ≤ z) : (Lib.itoa z).length ≤ 8 := by
  have := digs_len z.natAbs (by omega)
  unfold Lib.itoa; split
  · simp; omega
  · rw [show z.toNat = z.natAbs by omega]; omega
theorem mkNum_le (zs : List Int) (i : Nat) : mkNum zs i ≤ 1000000 ∧ -1000000 ≤ mkNum zs i := by
  unfold mkNum; split
  · rename_i h
    have := Int.natAbs_tmod zs[i] 1000001
    have h2 := Nat.mod_lt zs[i].natAbs (show 0 < (1000001 : Int).natAbs by decide)
    have e : (1000001 : Int).natAbs = 1000001 := rfl
    rw [e] at this h2
    omega
  · omega
theorem mkWord_ok (word : ByteArray) : wordOk (mkWord true word) = true := by
  unfold mkWord
  simp only [if_true]
  split
  · assumption
  · decide
theorem mk_wf (verb : Int) (zs : List Int) (word : ByteArray) (o : Option Nat) (w : Bool) (hsh : lnShape (mkVerb verb) = some (o, w)) (hno : ∀ c ∈ (mkVerb verb).data.toList, c ≠ 32) :
    LnWf ⟨mkVerb verb, mkNs zs (o.getD (min zs.length 8)), mkWord w word⟩ o w where
  shp := hsh
  len := by
    cases o with
    | none => rfl
    | some n => simp [mkNs_len]
  num := by
    intro z hz
    simp only [mkNs, List.mem_map] at hz
    obtain ⟨i, _, rfl⟩ := hz
    exact mkNum_le zs i
  yes := by rintro rfl; exact mkWord_ok word
  no := by rintro rfl; rfl
  verb := hno
theorem wf_size {l : Ln} {o : Option Nat} {w : Bool} (h : LnWf l o w) (h8 : l.ns.length ≤ 8) (hv : l.verb.size ≤ 10) : (lnTexts l w).length ≤ 9 ∧ ∀ x ∈ (l.verb :: lnTexts l w).map (·.data.toList), x.length ≤ 16 := by
  constructor
  · unfold lnTexts; cases w <;> simp <;> omega
  · intro x hx
    obtain ⟨y, hy, rfl⟩ := List.mem_map.1 hx
    have e : ∀ s : ByteArray, s.data.toList.length = s.size := fun s => by simp
    rw [e]
    rcases List.mem_cons.1 hy with rfl | hy
    · omega
    rcases List.mem_append.1 hy with hy | hy
    · obtain ⟨z, hz, rfl⟩ := List.mem_map.1 hy
      have := itoa_len z (h.num z hz).1 (h.num z hz).2
      show (Lib.itoa z).length ≤ 16; omega
    · cases w
      · simp at hy
      · simp at hy; subst hy
        have := h.yes rfl
        simp only [wordOk, Bool.and_eq_true, decide_eq_true_eq] at this
        omega
end Go.Proofs.YtoolmpfkbaffcaaDoor
