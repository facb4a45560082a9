/- Part of the proof; no statement of its own: CrcMath. -/
set_option linter.all false
namespace Go.Crc

def poly : BitVec 32 := 0x82f63b78#32

/-- one bit's step -/
def stp (x : BitVec 32) : BitVec 32 := (x >>> 1) ^^^ (if x.getLsbD 0 then poly else 0#32)

theorem ite_xor (p q : Bool) : (if (p ^^ q) then poly else 0#32) = (if p then poly else 0#32) ^^^ (if q then poly else 0#32) := by
  cases p <;> cases q <;> decide

theorem stp_xor (a b : BitVec 32) : stp (a ^^^ b) = stp a ^^^ stp b := by
  unfold stp
  rw [BitVec.getLsbD_xor, ite_xor]
  have h : (a ^^^ b) >>> 1 = (a >>> 1) ^^^ (b >>> 1) := by
    apply BitVec.eq_of_getLsbD_eq; intro i hi; simp
  rw [h]; ac_rfl

def stpN : Nat → BitVec 32 → BitVec 32
  | 0, x => x
  | n + 1, x => stpN n (stp x)

theorem stpN_xor (n : Nat) : ∀ a b, stpN n (a ^^^ b) = stpN n a ^^^ stpN n b := by
  induction n with
  | zero => intro a b; rfl
  | succ n ih => intro a b; simp only [stpN, stp_xor, ih]

theorem stpN_add (m n : Nat) : ∀ x, stpN (m + n) x = stpN n (stpN m x) := by
  induction m with
  | zero => intro x; simp [stpN]
  | succ m ih => intro x; rw [show m + 1 + n = (m + n) + 1 by omega]; simp only [stpN, ih]

theorem stp_shl (y : BitVec 32) (h : y.getLsbD 31 = false) : stp (y <<< 1) = y := by
  unfold stp
  have h0 : (y <<< 1).getLsbD 0 = false := by simp
  rw [h0]
  apply BitVec.eq_of_getLsbD_eq; intro i hi
  by_cases h31 : i = 31
  · subst h31; simpa using h
  · simp; omega

theorem stpN_shl (n : Nat) : ∀ (y : BitVec 32), (∀ i, 32 - n ≤ i → y.getLsbD i = false) → n ≤ 32 → stpN n (y <<< n) = y := by
  induction n with
  | zero => intro y _ _; simp [stpN]
  | succ n ih =>
    intro y h hn
    have e : y <<< (n + 1) = (y <<< n) <<< 1 := by rw [← BitVec.shiftLeft_add]
    have hb : (y <<< n).getLsbD 31 = false := by
      have h3 := h (31 - n) (by omega)
      rw [BitVec.getLsbD_shiftLeft, h3]; simp
    simp only [stpN]
    rw [e, stp_shl _ hb]
    exact ih y (fun i hi => h i (by omega)) (by omega)

def tab (i : BitVec 32) : BitVec 32 := stpN 4 i

def nib (x : BitVec 32) : BitVec 32 := (x >>> 4) ^^^ tab (x &&& 15#32)

theorem split_nib (x : BitVec 32) : x = ((x >>> 4) <<< 4) ^^^ (x &&& 15#32) := by
  apply BitVec.eq_of_getLsbD_eq; intro i hi
  have h15 : ∀ i, (15#32).getLsbD i = decide (i < 4) := by
    intro i
    by_cases h : i < 32
    · revert i; decide
    · rw [BitVec.getLsbD_of_ge _ _ (by omega)]; simp; omega
  by_cases h4 : i < 4
  · have hm : (x &&& 15#32).getLsbD i = x.getLsbD i := by rw [BitVec.getLsbD_and, h15]; simp [h4]
    rw [BitVec.getLsbD_xor, hm]; simp [h4]
  · have : 4 + (i - 4) = i := by omega
    have hm : (x &&& 15#32).getLsbD i = false := by rw [BitVec.getLsbD_and, h15]; simp [h4]
    rw [BitVec.getLsbD_xor, hm]; simp [this, hi, h4]

theorem nib_eq (x : BitVec 32) : nib x = stpN 4 x := by
  have h := split_nib x
  have hs : stpN 4 ((x >>> 4) <<< 4) = x >>> 4 := by
    apply stpN_shl
    · intro i hi; simp; exact BitVec.getLsbD_of_ge _ _ (by omega)
    · omega
  rw [show stpN 4 x = stpN 4 (((x >>> 4) <<< 4) ^^^ (x &&& 15#32)) from congrArg _ h]
  rw [stpN_xor, hs]; rfl

/-- one byte -/
def byt (x : BitVec 32) (c : UInt8) : BitVec 32 := stpN 8 (x ^^^ c.toBitVec.setWidth 32)

theorem byt_nib (x : BitVec 32) (c : UInt8) : byt x c = nib (nib (x ^^^ c.toBitVec.setWidth 32)) := by
  unfold byt; rw [nib_eq, nib_eq, ← stpN_add]

def run (x : BitVec 32) (l : List UInt8) : BitVec 32 := l.foldl byt x

def crc (l : List UInt8) : BitVec 32 := ~~~ (run (~~~ 0#32) l)

theorem run_append (x : BitVec 32) (a b : List UInt8) : run x (a ++ b) = run (run x a) b := by simp [run]

-- linear part: the difference of two runs
theorem run_xor (l m n : List UInt8) : ∀ (x y z : BitVec 32), l.length = m.length → l.length = n.length → (∀ i (h : i < l.length) (h2 : i < m.length) (h3 : i < n.length), n[i] = l[i] ^^^ m[i]) →
    z = x ^^^ y → run z n = run x l ^^^ run y m := by
  induction l generalizing m n with
  | nil =>
    intro x y z h1 h2 _ hz
    cases m with
    | nil => cases n with
      | nil => simpa [run] using hz
      | cons _ _ => simp at h2
    | cons _ _ => simp at h1
  | cons a l ih =>
    intro x y z h1 h2 h3 hz
    cases m with
    | nil => simp at h1
    | cons b m => cases n with
      | nil => simp at h2
      | cons c n =>
        have hc : c = a ^^^ b := h3 0 (by simp) (by simp) (by simp)
        show run (byt z c) n = run (byt x a) l ^^^ run (byt y b) m
        apply ih m n _ _ _ (by simpa using h1) (by simpa using h2)
        · intro i h h' h''
          have := h3 (i + 1) (by simp; omega) (by simp; omega) (by simp; omega)
          simpa using this
        · unfold byt
          rw [← stpN_xor, hz, hc]
          congr 1
          have : (a ^^^ b).toBitVec.setWidth 32 = a.toBitVec.setWidth 32 ^^^ b.toBitVec.setWidth 32 := by
            apply BitVec.eq_of_getLsbD_eq; intro i hi; simp
          rw [this]; ac_rfl

theorem stp_inj {a b : BitVec 32} (h : stp a = stp b) : a = b := by
  have hx : stp (a ^^^ b) = 0#32 := by rw [stp_xor, h, BitVec.xor_self]
  have key : ∀ d : BitVec 32, stp d = 0#32 → d = 0#32 := by
    intro d hd
    unfold stp at hd
    cases h0 : d.getLsbD 0 with
    | true =>
      rw [h0] at hd
      have h31 := congrArg (fun z => z.getLsbD 31) hd
      simp [poly] at h31
    | false =>
      rw [h0] at hd
      simp at hd
      apply BitVec.eq_of_getLsbD_eq; intro i hi
      cases i with
      | zero => simpa using h0
      | succ i =>
        have := congrArg (fun z => z.getLsbD i) hd
        simp at this
        rw [Nat.add_comm] at this
        simpa using this
  have := key _ hx
  exact BitVec.xor_eq_zero_iff.1 this

theorem stpN_inj (n : Nat) : ∀ {a b : BitVec 32}, stpN n a = stpN n b → a = b := by
  induction n with
  | zero => intro a b h; exact h
  | succ n ih => intro a b h; exact stp_inj (ih h)

theorem byt_inj {x y : BitVec 32} (c : UInt8) (h : byt x c = byt y c) : x = y := by
  have := stpN_inj 8 h
  have h2 := congrArg (· ^^^ c.toBitVec.setWidth 32) this
  simpa [BitVec.xor_assoc] using h2

theorem run_inj (l : List UInt8) : ∀ {x y : BitVec 32}, run x l = run y l → x = y := by
  induction l with
  | nil => intro x y h; exact h
  | cons c l ih => intro x y h; exact byt_inj c (ih h)


/-- up to four bytes as bits, the first one lowest -/
def pack : List UInt8 → BitVec 32
  | [] => 0#32
  | c :: l => c.toBitVec.setWidth 32 ^^^ (pack l <<< 8)

theorem pack_high (l : List UInt8) : ∀ i, 8 * l.length ≤ i → (pack l).getLsbD i = false := by
  induction l with
  | nil => intro i _; simp [pack]
  | cons c l ih =>
    intro i hi
    simp only [List.length_cons] at hi
    have h1 := ih (i - 8) (by omega)
    have h2 : c.toBitVec.getLsbD i = false := BitVec.getLsbD_of_ge _ _ (by omega)
    simp only [pack, BitVec.getLsbD_xor, BitVec.getLsbD_shiftLeft, BitVec.getLsbD_setWidth, h1, h2]; simp

theorem run_pack (l : List UInt8) : ∀ (x : BitVec 32), l.length ≤ 4 → run x l = stpN (8 * l.length) (x ^^^ pack l) := by
  induction l with
  | nil => intro x _; simp [run, stpN, pack]
  | cons c l ih =>
    intro x hl
    simp only [List.length_cons] at hl
    show run (byt x c) l = _
    rw [ih _ (by omega)]
    have hs : stpN 8 (pack l <<< 8) = pack l := stpN_shl 8 _ (fun i hi => pack_high l i (by omega)) (by omega)
    unfold byt
    rw [show 8 * (c :: l).length = 8 + 8 * l.length by simp; omega, stpN_add]
    congr 1
    show stpN 8 (x ^^^ c.toBitVec.setWidth 32) ^^^ pack l = _
    conv => lhs; rw [← hs]
    rw [← stpN_xor]
    simp only [pack]; rw [BitVec.xor_assoc]

theorem pack_inj : ∀ (l m : List UInt8), l.length = m.length → l.length ≤ 4 → pack l = pack m → l = m := by
  intro l
  induction l with
  | nil => intro m h _ _; cases m with
    | nil => rfl
    | cons _ _ => simp at h
  | cons c l ih =>
    intro m h h4 hp
    cases m with
    | nil => simp at h
    | cons d m =>
      simp only [List.length_cons] at h h4
      have hc : c = d := by
        apply UInt8.eq_of_toBitVec_eq
        apply BitVec.eq_of_getLsbD_eq; intro i hi
        have := congrArg (fun z => z.getLsbD i) hp
        simp only [pack, BitVec.getLsbD_xor, BitVec.getLsbD_shiftLeft, BitVec.getLsbD_setWidth] at this
        have h32 : i < 32 := by omega
        simpa [hi, h32] using this
      subst hc
      have hp' : pack l = pack m := by
        have h2 : pack l <<< 8 = pack m <<< 8 := by
          have := congrArg (c.toBitVec.setWidth 32 ^^^ ·) hp
          simpa [pack, ← BitVec.xor_assoc] using this
        apply BitVec.eq_of_getLsbD_eq; intro i hi
        by_cases h24 : i < 24
        · have := congrArg (fun z => z.getLsbD (i + 8)) h2
          simp only [BitVec.getLsbD_shiftLeft] at this
          have e1 : decide (i + 8 < 32) = true := by simp; omega
          have e2 : decide (i + 8 < 8) = false := by simp
          simpa [e1, e2] using this
        · rw [pack_high l i (by omega), pack_high m i (by omega)]
      rw [ih m (by omega) (by omega) hp']

theorem crc_spoilt (p q q' r : List UInt8) (h : q.length = q'.length) (h4 : q.length ≤ 4) (hc : crc (p ++ q ++ r) = crc (p ++ q' ++ r)) : q = q' := by
  unfold crc at hc
  rw [run_append, run_append, run_append, run_append] at hc
  have h1 := run_inj r (BitVec.not_inj.1 hc)
  rw [run_pack q _ h4, run_pack q' _ (by omega), h] at h1
  have h2 := stpN_inj _ h1
  apply pack_inj _ _ h h4
  have := congrArg ((run (~~~ 0#32) p) ^^^ ·) h2
  simpa [← BitVec.xor_assoc] using this

/-- a number's four bytes, the lowest first -/
def le4 (x : BitVec 32) : List UInt8 := [⟨x.setWidth 8⟩, ⟨(x >>> 8).setWidth 8⟩, ⟨(x >>> 16).setWidth 8⟩, ⟨(x >>> 24).setWidth 8⟩]

theorem pack_le4 (x : BitVec 32) : pack (le4 x) = x := by
  apply BitVec.eq_of_getLsbD_eq; intro i hi
  simp only [pack, le4, BitVec.getLsbD_xor, BitVec.getLsbD_shiftLeft, BitVec.getLsbD_setWidth, BitVec.getLsbD_ushiftRight]
  have d0 : ∀ j k : Nat, j < k → decide (j < k) = true := fun j k h => by simpa using h
  have d1 : ∀ j k : Nat, k ≤ j → decide (j < k) = false := fun j k h => by simpa using h
  by_cases h8 : i < 8
  · simp [h8, hi]
  · by_cases h16 : i < 16
    · rw [d1 i 8 (by omega), d0 i 32 hi, d0 (i - 8) 32 (by omega), d0 (i - 8) 8 (by omega), show 8 + (i - 8) = i by omega]; simp
    · by_cases h24 : i < 24
      · rw [d1 i 8 (by omega), d0 i 32 hi, d0 (i - 8) 32 (by omega), d1 (i - 8) 8 (by omega), d0 (i - 8 - 8) 32 (by omega), d0 (i - 8 - 8) 8 (by omega), show 16 + (i - 8 - 8) = i by omega]; simp
      · rw [d1 i 8 (by omega), d0 i 32 hi, d0 (i - 8) 32 (by omega), d1 (i - 8) 8 (by omega), d0 (i - 8 - 8) 32 (by omega), d1 (i - 8 - 8) 8 (by omega), d0 (i - 8 - 8 - 8) 32 (by omega), d0 (i - 8 - 8 - 8) 8 (by omega), show 24 + (i - 8 - 8 - 8) = i by omega]; simp

theorem crc_behind (l : List UInt8) : crc (l ++ le4 (crc l)) = 0x48674bc7#32 := by
  rw [crc, run_append, run_pack _ _ (by simp [le4]), pack_le4]
  have e : run (~~~ 0#32) l ^^^ crc l = ~~~ 0#32 := by
    unfold crc
    apply BitVec.eq_of_getLsbD_eq; intro i hi
    simp only [BitVec.getLsbD_xor, BitVec.getLsbD_not, hi, decide_true, Bool.true_and]
    cases (run (~~~0#32) l).getLsbD i <;> simp
  rw [e]; show ~~~ stpN 32 (~~~ 0#32) = _; decide

/-- the document's answer -/
def refBit (x : Nat) : Nat := if x % 2 = 1 then (x / 2) ^^^ 2197175160 else x / 2

def refBits : Nat → Nat → Nat
  | 0, x => x
  | n + 1, x => refBits n (refBit x)

def refByte (x : Nat) (c : UInt8) : Nat := refBits 8 (x ^^^ c.toNat)

theorem refBit_stp (x : BitVec 32) : refBit x.toNat = (stp x).toNat := by
  unfold refBit stp
  have h : x.getLsbD 0 = decide (x.toNat % 2 = 1) := by
    rw [BitVec.getLsbD, Nat.testBit_zero]
  by_cases hb : x.toNat % 2 = 1
  · rw [h]; simp [hb, poly, Nat.shiftRight_eq_div_pow]
  · rw [h]; simp [hb, Nat.shiftRight_eq_div_pow]

theorem refBits_stpN (n : Nat) : ∀ x : BitVec 32, refBits n x.toNat = (stpN n x).toNat := by
  induction n with
  | zero => intro x; rfl
  | succ n ih => intro x; simp only [refBits, stpN, refBit_stp, ih]

theorem refByte_byt (x : BitVec 32) (c : UInt8) : refByte x.toNat c = (byt x c).toNat := by
  unfold refByte byt
  rw [← refBits_stpN]
  have : c.toNat % 4294967296 = c.toNat := Nat.mod_eq_of_lt (by have := c.toNat_lt; omega)
  rw [BitVec.toNat_xor, BitVec.toNat_setWidth, UInt8.toNat_toBitVec, this]

def refRun (x : Nat) (l : List UInt8) : Nat := l.foldl refByte x

theorem refRun_run (l : List UInt8) : ∀ x : BitVec 32, refRun x.toNat l = (run x l).toNat := by
  induction l with
  | nil => intro x; rfl
  | cons c l ih => intro x; show refRun (refByte x.toNat c) l = _; rw [refByte_byt, ih]; rfl

theorem refRun_lt (l : List UInt8) (x : Nat) (h : x < 4294967296) : refRun x l < 4294967296 := by
  have := refRun_run l (BitVec.ofNat 32 x)
  rw [BitVec.toNat_ofNat, Nat.mod_eq_of_lt h] at this
  rw [this]; exact (run _ l).isLt

theorem ref_crc (l : List UInt8) : 4294967295 - refRun 4294967295 l = (crc l).toNat := by
  have h := refRun_run l (~~~ 0#32)
  rw [show (~~~ 0#32).toNat = 4294967295 by decide] at h
  rw [h, crc, BitVec.toNat_not]

theorem crc_three (a b c n : List UInt8) (h1 : a.length = n.length) (h2 : b.length = n.length) (h3 : c.length = n.length)
    (h : ∀ i (h : i < n.length), n[i] = a[i] ^^^ b[i] ^^^ c[i]) : crc n = crc a ^^^ crc b ^^^ crc c := by
  have e1 := run_xor a b (List.zipWith (· ^^^ ·) a b) (~~~ 0#32) (~~~ 0#32) 0#32 (by omega) (by simp; omega) (by intro i h h' h''; simp) (by simp)
  have e2 := run_xor (List.zipWith (· ^^^ ·) a b) c n 0#32 (~~~ 0#32) (~~~ 0#32) (by simp; omega) (by simp; omega) (by intro i h' h'' h'''; simp [h]) (by simp)
  unfold crc
  rw [e2, e1]
  apply BitVec.eq_of_getLsbD_eq; intro i hi
  simp only [BitVec.getLsbD_not, BitVec.getLsbD_xor, hi, decide_true, Bool.true_and]
  cases (run (~~~0#32) a).getLsbD i <;> cases (run (~~~0#32) b).getLsbD i <;> cases (run (~~~0#32) c).getLsbD i <;> rfl

end Go.Crc
