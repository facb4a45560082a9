/- A line, read letter by letter of its shape. -/
import Derived.Test.YtoolmpfkbaffcaaDoorSc
set_option linter.all false
namespace Go.Sc
open Go
def lnRun : List UInt8 → List ByteArray → List Int → ByteArray → Except Nat (List Int × ByteArray × List ByteArray)
  | [], l, ns, w => .ok (ns, w, l)
  | _ :: _, [], _, _ => .error 2
  | c :: h, s :: l, ns, w =>
    if c = 119 then (if wordOk s then lnRun h l ns s else .error 1) else
    match lnNum s with
    | none => .error 1
    | some v => lnRun h l (ns ++ [v]) w
def lnEnd (verb : ByteArray) : Except Nat (List Int × ByteArray × List ByteArray) → Except Nat Ln
  | .error e => .error e
  | .ok (ns, w, l) => if l = [] then .ok ⟨verb, ns, w⟩ else .error 1
theorem run_nums (h : List UInt8) (w : ByteArray) : ∀ (n : Nat) (l : List ByteArray) (ns : List Int), lnRun (List.replicate n 110 ++ h) l ns w = (match lnNums n l with | .error e => .error e | .ok (vs, r) => lnRun h r (ns ++ vs) w) := by
  intro n
  induction n with
  | zero => intro l ns; simp [lnNums]
  | succ n ih =>
    intro l ns
    cases l with
    | nil => rfl
    | cons s l =>
      rw [List.replicate_succ, List.cons_append, lnRun, lnNums, if_neg (by decide)]
      cases hs : lnNum s with
      | none => rfl
      | some v =>
        simp only []
        rw [ih]
        cases hn : lnNums n l with
        | error e => rfl
        | ok p => obtain ⟨vs, r⟩ := p; simp
theorem run_tail (verb : ByteArray) (w : Bool) (ns : List Int) (l : List ByteArray) : lnEnd verb (lnRun (if w then [119] else []) l ns ByteArray.empty) = lnTail verb w ns l := by
  cases w <;> cases l with
  | nil => rfl
  | cons s r =>
    first
    | (simp only [if_true, lnRun, lnTail]; split <;> rfl)
    | rfl
/-- the shape as letters -/
def lnHow (n : Nat) (w : Bool) : List UInt8 := List.replicate n 110 ++ if w then [119] else []
theorem parse_run (s : ByteArray) (hs : ¬ s.size > 200) (verb : ByteArray) (ws : List ByteArray) (hp : lnParts s = verb :: ws) (o : Option Nat) (w : Bool) (hsh : lnShape verb = some (o, w)) :
    lnParse s = lnEnd verb (lnRun (lnHow (o.getD ws.length) w) ws [] ByteArray.empty) := by
  unfold lnParse lnHow
  rw [if_neg hs, hp]
  simp only [hsh]
  rw [run_nums]
  cases hn : lnNums (o.getD ws.length) ws with
  | error e => rfl
  | ok p =>
    obtain ⟨vs, r⟩ := p
    simp only []
    rw [← run_tail, List.nil_append]
theorem lnPick {α : Type} {c : Prop} [Decidable c] {a b x : α} (h : (if c then a else b) = x) : a = x ∨ b = x := by
  by_cases hc : c
  · rw [if_pos hc] at h; exact .inl h
  · rw [if_neg hc] at h; exact .inr h
theorem shape_star (verb : ByteArray) (o : Option Nat) (w : Bool) (h : lnShape verb = some (o, w)) : (o = none → w = false) ∧ ∀ n, o = some n → n ≤ 3 := by
  unfold lnShape at h
  iterate 21
    rcases lnPick h with h | h
    · cases h; exact ⟨by simp, by simp⟩
  cases h
theorem cuts_ne : ∀ (l p : List UInt8), lnCuts p l ≠ []
  | [], p => by simp [lnCuts]
  | c :: r, p => by
    rw [lnCuts]; split
    · simp
    · exact cuts_ne r _
theorem cuts_total : ∀ (l p : List UInt8), ∀ x ∈ lnCuts p l, x.length ≤ p.length + l.length
  | [], p, x, hx => by simp [lnCuts] at hx; subst hx; simp
  | c :: r, p, x, hx => by
    rw [lnCuts] at hx; split at hx
    · rcases List.mem_cons.1 hx with h | h
      · subst h; simp
      · have := cuts_total r [] x h; simp at this ⊢; omega
    · have := cuts_total r _ x hx; simp at this ⊢; omega
theorem parts_ne (s : ByteArray) : ∃ verb ws, lnParts s = verb :: ws := by
  unfold lnParts
  cases h : lnCuts [] s.data.toList with
  | nil => exact absurd h (cuts_ne _ _)
  | cons a r => exact ⟨_, _, rfl⟩
theorem parts_size (s : ByteArray) : ∀ x ∈ lnParts s, x.size ≤ s.size := by
  intro x hx
  unfold lnParts at hx
  obtain ⟨y, hy, rfl⟩ := List.mem_map.1 hx
  have := cuts_total _ _ y hy
  have e : (sb y).size = y.length := rfl
  have e2 : s.data.toList.length = s.size := by simp
  simp only [List.length_nil] at this
  omega
theorem cuts_count : ∀ (l p : List UInt8), (lnCuts p l).length ≤ l.length + 1
  | [], p => by simp [lnCuts]
  | c :: r, p => by
    rw [lnCuts]; split
    · have := cuts_count r []; simp; omega
    · have := cuts_count r (p ++ [c]); simp; omega
theorem parts_count (s : ByteArray) : (lnParts s).length ≤ s.size + 1 := by
  unfold lnParts
  rw [List.length_map]
  simpa using cuts_count s.data.toList []
end Go.Sc
