/- The three readings of a line that may be. -/
import Derived.Test.YtoolmpfkbaffcaaDoorSc7
set_option linter.all false
namespace Go.Sc
open Go
theorem parse_gen (s : ByteArray) (hs : s.size ≤ 200) (verb : ByteArray) (ws : List ByteArray) (hp : lnParts s = verb :: ws) (o : Option Nat) (w : Bool) (hsh : lnShape verb = some (o, w)) :
    lnParse s = (match lnNums (o.getD ws.length) ws with | .error e => .error e | .ok (ns, r) => lnTail verb w ns r) := by
  unfold lnParse
  rw [if_neg (by omega), hp]
  simp only [hsh]
  cases lnNums (o.getD ws.length) ws <;> rfl
theorem text_list {l : Ln} {o : Option Nat} {w : Bool} (h : LnWf l o w) : (lnText l).data.toList = Lib.join ((l.verb :: lnTexts l w).map (·.data.toList)) [32] := by
  rw [← words_wf h, lnText]; simp [sb]
theorem wf_count {l : Ln} {o : Option Nat} {w : Bool} (h : LnWf l o w) : o.getD (lnTexts l w).length = l.ns.length := by
  have hs := (shape_star _ _ _ h.shp).1
  cases o with
  | none =>
    have := hs rfl; subst this
    simp [lnTexts]
  | some n => have := h.len; simp only [Option.getD_some] at this ⊢; exact this.symm
theorem parse_back {l : Ln} {o : Option Nat} {w : Bool} (h : LnWf l o w) (hs : (lnText l).size ≤ 200) : lnParse (lnText l) = .ok l := by
  have hp := parts_join (l.verb :: lnTexts l w) (by simp) (texts_no h) (lnText l) (text_list h)
  rw [parse_gen _ hs _ _ hp o w h.shp, wf_count h]
  have hn := nums_itoa (if w then [l.word] else []) l.ns h.num
  unfold lnTexts
  rw [hn]
  cases w
  · have := h.no rfl
    obtain ⟨a, b, c⟩ := l
    simp only at this; subst this
    rfl
  · simp only [if_true, lnTail, h.yes rfl]
theorem join_snoc (x : List UInt8) (sep : List UInt8) : ∀ (ws : List (List UInt8)), ws ≠ [] → Lib.join (ws ++ [x]) sep = Lib.join ws sep ++ (sep ++ x)
  | [], h => absurd rfl h
  | y :: r, _ => by
    by_cases hr : r = []
    · subst hr
      rw [List.singleton_append, join_cons2 _ _ _ (by simp), Lib.join_one, Lib.join_one]
    · rw [List.cons_append, join_cons2 _ _ _ (by simp), join_snoc x sep r hr, join_cons2 _ _ _ hr]
      simp [List.append_assoc]
theorem parse_more {l : Ln} {n : Nat} {w : Bool} (h : LnWf l (some n) w) (s : ByteArray) (he : s.data.toList = (lnText l).data.toList ++ [32, 55]) (hs : s.size ≤ 200) : lnParse s = .error 1 := by
  have hp := parts_join (l.verb :: lnTexts l w ++ [⟨#[55]⟩]) (by simp) (by
    intro x hx c hc
    rcases List.mem_append.1 hx with hx | hx
    · exact texts_no h x hx c hc
    · rw [List.mem_singleton.1 hx] at hc
      rw [List.mem_singleton.1 (show c ∈ [55] from hc)]; decide) s (by
    rw [he, text_list h, List.map_append, List.map_singleton, join_snoc _ _ _ (by simp)]; rfl)
  rw [List.cons_append] at hp
  rw [parse_gen _ hs _ _ hp (some n) w h.shp]
  have hl := h.len
  simp only [Option.getD_some] at hl ⊢
  have hn := nums_itoa ((if w then [l.word] else []) ++ [⟨#[55]⟩]) l.ns h.num
  rw [← List.append_assoc] at hn
  unfold lnTexts
  rw [← hl, hn]
  cases w
  · rfl
  · simp [lnTail, h.yes rfl]
theorem parse_none : lnParse ByteArray.empty = .error 15 := by
  have hp : lnParts ByteArray.empty = [⟨#[]⟩] := by decide +kernel
  have hs : lnShape ⟨#[]⟩ = none := by decide +kernel
  unfold lnParse
  rw [if_neg (by decide), hp]
  simp only [hs]
theorem mem_dropLast {α : Type} {l : List α} {x : α} (h : x ∈ l.dropLast) : x ∈ l := by
  rw [List.dropLast_eq_take] at h; exact List.mem_of_mem_take h
theorem parse_less {l : Ln} {n : Nat} {w : Bool} (h : LnWf l (some n) w) (s : ByteArray) (he : s.data.toList = Lib.join ((l.verb :: lnTexts l w).dropLast.map (·.data.toList)) [32]) (hs : s.size ≤ 200) :
    (lnTexts l w = [] → lnParse s = .error 15) ∧ (lnTexts l w ≠ [] → lnParse s = .error 2) := by
  constructor
  · intro h0
    rw [h0] at he
    have : s = ByteArray.empty := by
      cases s with
      | mk d => simp [Lib.join] at he; subst he; rfl
    rw [this, parse_none]
  · intro h0
    rw [List.dropLast_cons_of_ne_nil h0] at he
    have hp := parts_join (l.verb :: (lnTexts l w).dropLast) (by simp) (by
      intro x hx c hc
      refine texts_no h x ?_ c hc
      rcases List.mem_cons.1 hx with rfl | hx
      · exact List.mem_cons_self ..
      · exact List.mem_cons_of_mem _ (mem_dropLast hx)) s he
    rw [parse_gen _ hs _ _ hp (some n) w h.shp]
    have hl := h.len
    simp only [Option.getD_some] at hl ⊢
    cases w
    · have e : (lnTexts l false).dropLast = l.ns.dropLast.map (fun z => sb (Lib.itoa z)) := by simp [lnTexts, List.map_dropLast]
      have hne : l.ns ≠ [] := by intro e0; apply h0; simp [lnTexts, e0]
      have hlen : l.ns.length ≠ 0 := fun e => hne (List.eq_nil_of_length_eq_zero e)
      rw [e, nums_short l.ns.dropLast n (fun z hz => h.num z (mem_dropLast hz)) (by rw [List.length_dropLast, ← hl]; omega)]
    · have e : (lnTexts l true).dropLast = l.ns.map (fun z => sb (Lib.itoa z)) ++ [] := by simp [lnTexts]
      rw [e, ← hl, nums_itoa [] l.ns h.num]; rfl
end Go.Sc
