/- A line that may be: its text is read as it; with a word less, or more, it isn't. -/
import Derived.Test.YtoolmpfkbaffcaaDoorSc6
set_option linter.all false
namespace Go.Sc
open Go
theorem cuts_word : ∀ (w p rest : List UInt8), (∀ c ∈ w, c ≠ 32) → lnCuts p (w ++ rest) = lnCuts (p ++ w) rest
  | [], p, rest, _ => by simp
  | c :: w, p, rest, h => by
    rw [List.cons_append, lnCuts, if_neg (h c (List.mem_cons_self ..)), cuts_word w _ rest (fun x hx => h x (List.mem_cons_of_mem _ hx))]
    simp
theorem cuts_join : ∀ (ws : List (List UInt8)), ws ≠ [] → (∀ w ∈ ws, ∀ c ∈ w, c ≠ 32) → lnCuts [] (Lib.join ws [32]) = ws
  | [], h, _ => absurd rfl h
  | x :: r, _, h => by
    by_cases hr : r = []
    · subst hr
      have := cuts_word x [] [] (h x (List.mem_cons_self ..))
      rw [Lib.join_one]
      simpa [lnCuts] using this
    · rw [join_cons2 _ _ _ hr, cuts_word x [] _ (h x (List.mem_cons_self ..)), List.singleton_append, lnCuts, if_pos rfl, List.nil_append, cuts_join r hr (fun w hw => h w (List.mem_cons_of_mem _ hw))]
theorem itoa_no (v : Int) : ∀ c ∈ Lib.itoa v, c ≠ 32 := by
  have hd : ∀ u, ∀ c ∈ Lib.decDigits u, c ≠ 32 := by
    intro u
    induction u using Nat.strongRecOn with
    | ind u ih =>
      intro c hc
      rw [Lib.decDigits] at hc
      have key : ∀ d, d < 10 → UInt8.ofNat (48 + d) ≠ 32 := fun d hd e => by
        have := congrArg UInt8.toNat e
        rw [UInt8.toNat_ofNat'] at this
        have e2 : (32 : UInt8).toNat = 32 := rfl
        omega
      by_cases h : u < 10
      · rw [dif_pos h] at hc
        rw [List.mem_singleton.1 hc]; exact key u h
      · rw [dif_neg h] at hc
        rcases List.mem_append.1 hc with hc | hc
        · exact ih (u / 10) (by omega) c hc
        · rw [List.mem_singleton.1 hc]; exact key _ (by omega)
  intro c hc
  unfold Lib.itoa at hc
  split at hc
  · rcases List.mem_cons.1 hc with h | h
    · rw [h]; decide
    · exact hd _ c h
  · exact hd _ c hc
theorem isW_no (c : UInt8) (h : isW c = true) : c ≠ 32 := by rintro rfl; exact absurd h (by decide)
theorem num_itoa (z : Int) (h1 : z ≤ 1000000) (h2 : -1000000 ≤ z) : lnNum (sb (Lib.itoa z)) = some z := by
  rw [lnNum_eq]
  have : (sb (Lib.itoa z)).data.toList = Lib.itoa z := by simp [sb]
  rw [this, itoa_refNum z h1 h2]
theorem nums_itoa (rest : List ByteArray) : ∀ (ns : List Int), (∀ z ∈ ns, z ≤ 1000000 ∧ -1000000 ≤ z) → lnNums ns.length (ns.map (fun z => sb (Lib.itoa z)) ++ rest) = .ok (ns, rest)
  | [], _ => rfl
  | z :: ns, h => by
    have hz := h z (List.mem_cons_self ..)
    rw [List.map_cons, List.cons_append, List.length_cons, lnNums, num_itoa z hz.1 hz.2, nums_itoa rest ns (fun x hx => h x (List.mem_cons_of_mem _ hx))]
theorem nums_short : ∀ (ns : List Int) (k : Nat), (∀ z ∈ ns, z ≤ 1000000 ∧ -1000000 ≤ z) → ns.length < k → lnNums k (ns.map (fun z => sb (Lib.itoa z))) = .error 2
  | [], k + 1, _, _ => rfl
  | z :: ns, k + 1, h, hk => by
    have hz := h z (List.mem_cons_self ..)
    rw [List.map_cons, lnNums, num_itoa z hz.1 hz.2, nums_short ns k (fun x hx => h x (List.mem_cons_of_mem _ hx)) (by simpa using hk)]
/-- a line that may be -/
structure LnWf (l : Ln) (o : Option Nat) (w : Bool) : Prop where
  shp : lnShape l.verb = some (o, w)
  len : l.ns.length = o.getD l.ns.length
  num : ∀ z ∈ l.ns, z ≤ 1000000 ∧ -1000000 ≤ z
  yes : w = true → wordOk l.word = true
  no : w = false → l.word = ByteArray.empty
  verb : ∀ c ∈ l.verb.data.toList, c ≠ 32
def lnTexts (l : Ln) (w : Bool) : List ByteArray := l.ns.map (fun z => sb (Lib.itoa z)) ++ if w then [l.word] else []
theorem words_wf {l : Ln} {o : Option Nat} {w : Bool} (h : LnWf l o w) : lnWords l = (l.verb :: lnTexts l w).map (·.data.toList) := by
  have e : (l.ns.map fun z => sb (Lib.itoa z)).map (·.data.toList) = l.ns.map Lib.itoa := by simp [Function.comp_def, sb]
  unfold lnWords lnTexts
  cases w
  · rw [if_pos (h.no rfl)]; simp [Function.comp_def, sb]
  · rw [if_neg (word_ne (h.yes rfl))]; simp [Function.comp_def, sb]
theorem parts_join (xs : List ByteArray) (hx : xs ≠ []) (h : ∀ x ∈ xs, ∀ c ∈ x.data.toList, c ≠ 32) (s : ByteArray) (hs : s.data.toList = Lib.join (xs.map (·.data.toList)) [32]) : lnParts s = xs := by
  unfold lnParts
  rw [hs, cuts_join _ (by simpa using hx) (by intro w hw; obtain ⟨x, hx, rfl⟩ := List.mem_map.1 hw; exact h x hx), List.map_map]
  have : (sb ∘ fun x : ByteArray => x.data.toList) = id := by funext x; cases x; simp [sb]
  rw [this, List.map_id]
theorem texts_no {l : Ln} {o : Option Nat} {w : Bool} (h : LnWf l o w) : ∀ x ∈ l.verb :: lnTexts l w, ∀ c ∈ x.data.toList, c ≠ 32 := by
  intro x hx c hc
  rcases List.mem_cons.1 hx with rfl | hx
  · exact h.verb c hc
  rcases List.mem_append.1 hx with hx | hx
  · obtain ⟨z, _, rfl⟩ := List.mem_map.1 hx
    exact itoa_no z c (by simpa [sb] using hc)
  · cases w
    · simp at hx
    · simp at hx; subst hx
      have := h.yes rfl
      simp only [wordOk, Bool.and_eq_true, List.all_eq_true] at this
      exact isW_no c (this.2 c hc)
end Go.Sc
