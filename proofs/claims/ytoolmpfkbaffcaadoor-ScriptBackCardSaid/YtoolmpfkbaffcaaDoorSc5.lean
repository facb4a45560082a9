/- A line that is read is its own text. -/
import Derived.Test.YtoolmpfkbaffcaaDoorSc2
import Derived.Test.YtoolmpfkbaffcaaDoorSc4
set_option linter.all false
namespace Go.Sc
open Go
theorem join_cons2 (x : List UInt8) (r : List (List UInt8)) (sep : List UInt8) (h : r ≠ []) : Lib.join (x :: r) sep = x ++ (sep ++ Lib.join r sep) := by
  cases r with
  | nil => exact absurd rfl h
  | cons y t => rw [Lib.join_cons, Lib.join_cons]; simp [Lib.joinTail]
theorem join_cuts : ∀ (l p : List UInt8), Lib.join (lnCuts p l) [32] = p ++ l
  | [], p => by rw [lnCuts, Lib.join_one, List.append_nil]
  | c :: r, p => by
    rw [lnCuts]; split
    · rename_i h; subst h
      rw [join_cons2 _ _ _ (cuts_ne r []), join_cuts r []]; simp
    · rw [join_cuts r _]; simp
theorem num_text {s : ByteArray} {v : Int} (h : lnNum s = some v) : Lib.itoa v = s.data.toList ∧ v ≤ 1000000 ∧ -1000000 ≤ v := by
  rw [lnNum_eq] at h; exact refNum_itoa _ _ h
theorem nums_text : ∀ (n : Nat) (l : List ByteArray) (vs : List Int) (r : List ByteArray), lnNums n l = .ok (vs, r) → l.map (·.data.toList) = vs.map Lib.itoa ++ r.map (·.data.toList) ∧ (∀ z ∈ vs, z ≤ 1000000 ∧ -1000000 ≤ z) ∧ vs.length = n := by
  intro n
  induction n with
  | zero => intro l vs r h; simp only [lnNums, Except.ok.injEq, Prod.mk.injEq] at h; obtain ⟨rfl, rfl⟩ := h; simp
  | succ n ih =>
    intro l vs r h
    cases l with
    | nil => cases h
    | cons s l =>
      rw [lnNums] at h
      cases hs : lnNum s with
      | none => rw [hs] at h; cases h
      | some v =>
        rw [hs] at h
        simp only [] at h
        cases hn : lnNums n l with
        | error e => rw [hn] at h; cases h
        | ok p =>
          obtain ⟨us, q⟩ := p
          rw [hn] at h
          simp only [Except.ok.injEq, Prod.mk.injEq] at h
          obtain ⟨rfl, rfl⟩ := h
          obtain ⟨h1, h2, h3⟩ := ih l us q hn
          have ht := num_text hs
          refine ⟨by simp [h1, ht.1], ?_, by simp [h3]⟩
          intro z hz
          rcases List.mem_cons.1 hz with rfl | hz
          · exact ht.2
          · exact h2 z hz
theorem nums_le : ∀ (n : Nat) (l : List ByteArray) (vs : List Int) (r : List ByteArray), lnNums n l = .ok (vs, r) → vs.length ≤ l.length := by
  intro n
  induction n with
  | zero => intro l vs r h; simp only [lnNums, Except.ok.injEq, Prod.mk.injEq] at h; obtain ⟨rfl, rfl⟩ := h; simp
  | succ n ih =>
    intro l vs r h
    cases l with
    | nil => cases h
    | cons s l =>
      rw [lnNums] at h
      cases hs : lnNum s with
      | none => rw [hs] at h; cases h
      | some v =>
        rw [hs] at h
        simp only [] at h
        cases hn : lnNums n l with
        | error e => rw [hn] at h; cases h
        | ok p =>
          obtain ⟨us, q⟩ := p
          rw [hn] at h
          simp only [Except.ok.injEq, Prod.mk.injEq] at h
          obtain ⟨rfl, rfl⟩ := h
          have := ih l us q hn
          simp; omega
theorem word_ne {s : ByteArray} (h : wordOk s = true) : s ≠ ByteArray.empty := by
  rintro rfl; exact absurd h (by decide)
theorem parse_words (s : ByteArray) (l : Ln) (h : lnParse s = .ok l) : lnWords l = lnCuts [] s.data.toList ∧ (∀ z ∈ l.ns, z ≤ 1000000 ∧ -1000000 ≤ z) ∧ l.ns.length ≤ 201 ∧ s.size ≤ 200 := by
  unfold lnParse at h
  split at h
  · cases h
  rename_i h2
  have hc := parts_count s
  cases hp : lnParts s with
  | nil => rw [hp] at h; cases h
  | cons verb ws =>
    rw [hp] at h hc
    simp only [] at h
    cases hsh : lnShape verb with
    | none => rw [hsh] at h; cases h
    | some ow =>
      obtain ⟨o, w⟩ := ow
      rw [hsh] at h
      simp only [] at h
      cases hn : lnNums (o.getD ws.length) ws with
      | error e => rw [hn] at h; cases h
      | ok p =>
        obtain ⟨vs, r⟩ := p
        rw [hn] at h
        simp only [] at h
        obtain ⟨h1, hz, _⟩ := nums_text _ _ _ _ hn
        have hle := nums_le _ _ _ _ hn
        have hcut : lnCuts [] s.data.toList = (verb :: ws).map (·.data.toList) := by
          rw [← hp, lnParts, List.map_map]
          have : ((fun x : ByteArray => x.data.toList) ∘ sb) = id := by funext x; simp [sb]
          rw [this, List.map_id]
        have hlen : vs.length ≤ 201 := by simp only [List.length_cons] at hc; omega
        cases w <;> cases r with
        | nil =>
          first
          | (cases h; refine ⟨?_, hz, hlen, by omega⟩; rw [hcut, List.map_cons, h1, lnWords, if_pos rfl]; rfl)
          | cases h
        | cons x r =>
          first
          | (cases h; done)
          | (rw [lnTail] at h
             split at h
             · rename_i hw
               split at h
               · rename_i hr
                 subst hr
                 cases h
                 refine ⟨?_, hz, hlen, by omega⟩
                 rw [hcut, List.map_cons, h1, lnWords, if_neg (word_ne hw)]; rfl
               · cases h
             · cases h)
theorem parse_text (s : ByteArray) (l : Ln) (h : lnParse s = .ok l) : lnText l = s ∧ (Lib.join (lnWords l) [32]).length = s.size := by
  have := (parse_words s l h).1
  have e : Lib.join (lnWords l) [32] = s.data.toList := by rw [this, join_cuts, List.nil_append]
  refine ⟨?_, by rw [e]; simp⟩
  rw [lnText, e]; cases s; simp [sb]
def lnTest : ByteArray := ⟨#[119, 114, 105, 116, 101, 32, 49, 32, 48, 32, 50, 32, 97, 98, 99]⟩
theorem test_parse : lnParse lnTest = .ok ⟨⟨#[119, 114, 105, 116, 101]⟩, [1, 0, 2], ⟨#[97, 98, 99]⟩⟩ := by
  have h1 : lnNum ⟨#[49]⟩ = some 1 := by rw [lnNum_eq]; rfl
  have h0 : lnNum ⟨#[48]⟩ = some 0 := by rw [lnNum_eq]; rfl
  have h2 : lnNum ⟨#[50]⟩ = some 2 := by rw [lnNum_eq]; rfl
  have hp : lnParts lnTest = [⟨#[119, 114, 105, 116, 101]⟩, ⟨#[49]⟩, ⟨#[48]⟩, ⟨#[50]⟩, ⟨#[97, 98, 99]⟩] := by decide +kernel
  have hs : lnShape ⟨#[119, 114, 105, 116, 101]⟩ = some (some 3, true) := by decide +kernel
  have hw : wordOk ⟨#[97, 98, 99]⟩ = true := by decide +kernel
  unfold lnParse
  rw [if_neg (by decide), hp]
  simp only [hs, Option.getD_some, lnNums, h1, h0, h2, lnTail, hw, if_true]
end Go.Sc
