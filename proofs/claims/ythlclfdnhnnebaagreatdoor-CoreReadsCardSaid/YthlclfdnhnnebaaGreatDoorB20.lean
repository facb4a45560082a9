/- Part of the proof; no statement of its own: A6, A7, SlBv. -/
import Derived.Test.YthlclfdnhnnebaaGreatDoorB07
import Derived.Test.YthlclfdnhnnebaaGreatDoorB06
import Derived.Test.YthlclfdnhnnebaaGreatDoorB08
import Derived.Test.YthlclfdnhnnebaaGreatDoorB19
import Derived.Test.YthlclfdnhnnebaaGreatDoorB04
set_option linter.all false
section
set_option maxRecDepth 4000
set_option maxHeartbeats 4000000
namespace Go.Proofs.YthlclfdnhnnebaaGreatDoor
open Go.Sl Go.Sb
theorem ndp_err {l : Nat} {s : B} {e : Int} (h : openB s = .err e) : ((ndParse l s, ()) : Out Nd × Unit) = (.err e, ()) := by unfold ndParse; rw [h]
theorem ndp_tag {l : Nat} {s : B} (h : openB s = .ok (s.take 60)) (h1 : (s.take 60).take 1 ≠ [78]) : ((ndParse l s, ()) : Out Nd × Unit) = (.err 1, ()) := by unfold ndParse; rw [h]; simp only; rw [if_pos h1]
theorem ndp_level {l : Nat} {s : B} (h : openB s = .ok (s.take 60)) (h1 : (s.take 60).take 1 = [78]) (h2 : be (((s.take 60).drop 1).take 1) ≠ l) : ((ndParse l s, ()) : Out Nd × Unit) = (.err 1, ()) := by
  unfold ndParse; rw [h]; simp only; rw [if_neg (by simp [h1]), if_pos h2]
theorem ndp_zero {l : Nat} {s : B} (h : openB s = .ok (s.take 60)) (h1 : (s.take 60).take 1 = [78]) (h2 : be (((s.take 60).drop 1).take 1) = l) (h3 : allZero ((s.take 60).drop 50) = false) : ((ndParse l s, ()) : Out Nd × Unit) = (.err 1, ()) := by
  unfold ndParse; rw [h]; simp only; rw [if_neg (by simp [h1]), if_neg (fun e => e h2), if_pos h3]
theorem ndp_ok {l : Nat} {s : B} (h : openB s = .ok (s.take 60)) (h1 : (s.take 60).take 1 = [78]) (h2 : be (((s.take 60).drop 1).take 1) = l) (h3 : allZero ((s.take 60).drop 50) = true) :
    ((ndParse l s, ()) : Out Nd × Unit) = (.ok { kids := (nums 2 8 ((s.take 60).drop 2)).map Int.ofNat, sum := ((s.take 60).drop 18).take 32 }, ()) := by
  unfold ndParse; rw [h]; simp only; rw [if_neg (by simp [h1]), if_neg (fun e => e h2), if_neg (by simp [h3])]
theorem copy_end1 {a : Value} {C D : List Value} {l : B} {n m k : Nat} (ha : 1 + C.length = k) (hd : D.length = n) (hl : l.length = n) (hm : m = n) :
    (a :: (C ++ D)).take k ++ ((bs l).data.toList.take m).map byteV ++ (a :: (C ++ D)).drop (k + min (bs l).size m) = a :: (C ++ l.map byteV) := copy_end (A := [a]) ha hd hl hm
theorem be_len1 (l : B) : be (l.take 1) < 256 := Nat.lt_of_lt_of_le (be_lt _) (Nat.pow_le_pow_right (n := 256) (j := 1) (by decide) (by simp; omega))
set_option maxRecDepth 4000 in
theorem ndParse_spec (l : Nat) (s : B) (hs : s.length ≤ 1000000) : Does Tryz.prog 184 #[strV s, .int .i64 l] [] (Ran fT (fun _ : Unit => []) (ndV l) (ndParse l s, ())) := by
  have hb4 := be_len4 (s.drop 60)
  refine does_enter Tryz.func184 rfl Tryz.ntmps184 rfl (fun R w0 => ?_)
  simp only [envOf, List.cons_append, List.nil_append]
  refine cw_seq ?_
  refine cw_region ?_
  refine (ow_alloc F.z220 (fun b4 => ?_))
  refine ow_nil ?_
  refine kw_code (fun _ _ h => h) ?_
  refine cw_seq ?_
  refine cw_region ?_
  refine ow_y (y_move rfl) ?_
  refine ow_givesE rfl F.hb154 rfl (read_spec (bs s)) aSp ?_
  rintro b10 _
  try simp only [List.cons_append, List.nil_append]
  refine ow_y (y_assign rfl) ?_
  refine ow_nil ?_
  refine kw_code (fun _ _ h => h) ?_
  refine cw_seq ?_
  refine cw_region ?_
  refine ow_y (y_move rfl) ?_
  refine ow_ran rfl F.hb156 rfl (itext_spec b10 s 60 hs) aSp (fun a t ho => ?_) (fun e t ho => by (repeat (first | with_reducible refine kw_inBlock_panic ?_ | with_reducible refine kw_then_panic ?_)); exact kw_errR ((by obtain ⟨h1, rfl⟩ := itext_err ho; exact ndp_err (open_a h1))) (fun _ _ h => h) aSp)
  try simp only [List.cons_append, List.nil_append]
  obtain ⟨h1, rfl, rfl⟩ := itext_ok ho
  refine ow_y (y_assign rfl) ?_
  refine ow_nil ?_
  refine kw_code (fun _ _ h => h) ?_
  refine cw_seq ?_
  refine cw_seq ?_
  refine cw_region ?_
  refine ow_y (y_move rfl) ?_
  refine ow_ran rfl F.hb155 rfl (inum_spec b10 (s.drop 60) 4 (by omega) (by simp; omega)) aSp (fun n t ho => ?_) (fun e t ho => by (repeat (first | with_reducible refine kw_inBlock_panic ?_ | with_reducible refine kw_then_panic ?_)); exact kw_errR ((by obtain ⟨h2, rfl⟩ := inum_err ho; exact ndp_err (open_b h1 (by simp at h2; omega)))) (fun _ _ h => h) aSp)
  try simp only [List.cons_append, List.nil_append]
  obtain ⟨h2, rfl, rfl⟩ := inum_ok ho
  refine ow_y (y_conv F.ts161 F.in26 rfl) ?_
  rw [show IntKind.u32.wrap ((be ((s.drop 60).take 4) : Nat) : Int) = (be ((s.drop 60).take 4) : Nat) from by rw [IntKind.wrap_u32]; omega]
  refine ow_y (y_move rfl) ?_
  refine (ow_buildSlice F.sl247 F.z9 rfl rfl rfl (by simp [fillL, madeL, Value.cells] <;> rfl) (fun b17 => ?_))
  refine ow_gives rfl F.hb137 rfl (sum1_spec b17 1 (bs (s.take 60)) (by rw [bs_size]; simp [maxLen]; omega)) aSp ?_
  try simp only [List.cons_append, List.nil_append]
  rw [show ((Crc.crc (s.take 60)).toNat : Int) = (crcN (s.take 60) : Nat) from rfl]
  refine ow_y (y_neq rfl rfl) ?_
  refine ow_nil ?_
  refine kw_code (fun _ _ h => h) ?_
  refine cw_if rfl (fun hb19 => ?_) (fun hb19 => ?_)
  · skip
    refine cw_region ?_
    refine ow_fails rfl F.hb29 rfl (fail_spec 11) aSp ?_
    simp only [List.cons_append, List.nil_append]
    repeat (first | with_reducible refine kw_inBlock_panic ?_ | with_reducible refine kw_then_panic ?_)
    exact kw_errR (ndp_err (open_c (by simp at h2; omega) (by have h := hb19; simp at h; omega))) (fun _ _ h => h) aSp
  · skip
    have hcr : be ((s.drop 60).take 4) = crcN (s.take 60) := by have h := hb19; simp at h; omega
    refine cw_skip ?_
    refine kw_code (fun _ _ h => h) ?_
    refine cw_seq ?_
    refine cw_region ?_
    refine ow_y (y_move rfl) ?_
    refine ow_ran rfl F.hb214 rfl (idone_spec b10 ((s.drop 60).drop 4)) aSp (fun u t3 ho => ?_) (fun e t ho => by (repeat (first | with_reducible refine kw_inBlock_panic ?_ | with_reducible refine kw_then_panic ?_)); exact kw_errR ((by obtain ⟨h3, rfl⟩ := idone_err ho; exact ndp_err (open_d (by simp at h2; omega) hcr (fun e => h3 (List.eq_nil_of_length_eq_zero (by simp; omega)))))) (fun _ _ h => h) aSp)
    try simp only [List.cons_append, List.nil_append]
    refine ow_nil ?_
    refine kw_code (fun _ _ h => h) ?_
    refine cw_seq ?_
    have h3 := congrArg List.length (idone_ok ho)
    have h64 : s.length = 64 := by simp at h3 h2; omega
    have hop := open_e hcr h64
    have ht60 : (s.take 60).length = 60 := by simp; omega
    generalize hT : s.take 60 = T at hop ht60 ⊢
    refine cw_region ?_
    refine ow_y (y_move rfl) ?_
    refine ow_givesE rfl F.hb154 rfl (read_spec (bs T)) aSp ?_
    rintro b24 _
    try simp only [List.cons_append, List.nil_append]
    refine ow_y (y_assign rfl) ?_
    refine ow_nil ?_
    refine kw_code (fun _ _ h => h) ?_
    refine cw_seq ?_
    refine cw_seq ?_
    by_cases htag : T.take 1 = [78]
    · skip
      refine cw_region ?_
      refine ow_y (y_move rfl) ?_
      refine ow_gives rfl F.hb156 rfl (textL_ok b24 T 1 (by omega) (by omega)) aSp ?_
      try simp only [List.cons_append, List.nil_append]
      refine ow_y (y_str_neq rfl rfl) ?_
      refine ow_y (y_move rfl) ?_
      refine ow_yg (y_move rfl) (fun a w hh => (want_of rfl rfl rfl hh).trans (wFF (by rw [show (⟨#[78]⟩ : ByteArray) = bs [78] from rfl, bs_toList, bs_toList, htag]; rfl))) ?_
      refine ow_want (fun a w hh => (want_of rfl rfl rfl hh).trans (wFF (by rw [show (⟨#[78]⟩ : ByteArray) = bs [78] from rfl, bs_toList, bs_toList, htag]; rfl))) ?_
      refine ow_gives rfl F.hb155 rfl (numL_ok b24 (T.drop 1) 1 (by omega) (by simp; omega) (by simp; omega)) aSp ?_
      try simp only [List.cons_append, List.nil_append]
      refine ow_yg (y_conv F.ts161 F.in3 rfl) (fun a w hh => (want_of rfl rfl rfl hh).trans (wFF (by rw [show (⟨#[78]⟩ : ByteArray) = bs [78] from rfl, bs_toList, bs_toList, htag]; rfl))) ?_
      rw [show IntKind.i64.wrap ((be ((T.drop 1).take 1) : Nat) : Int) = (be ((T.drop 1).take 1) : Nat) from wrap_sm _ _ (by omega) (by have := be_len1 (T.drop 1); simp only [IntKind.bits]; omega)]
      refine ow_yg (y_move rfl) (fun a w hh => (want_of rfl rfl rfl hh).trans (wFF (by rw [show (⟨#[78]⟩ : ByteArray) = bs [78] from rfl, bs_toList, bs_toList, htag]; rfl))) ?_
      refine ow_yg (y_neq rfl rfl) (fun a w hh => (want_of rfl rfl rfl hh).trans (wFF (by rw [show (⟨#[78]⟩ : ByteArray) = bs [78] from rfl, bs_toList, bs_toList, htag]; rfl))) ?_
      refine ow_y (y_pickF rfl (by rw [show (⟨#[78]⟩ : ByteArray) = bs [78] from rfl, bs_toList, bs_toList, htag]; rfl) rfl) ?_
      refine ow_nil ?_
      refine kw_code (fun _ _ h => h) ?_
      refine cw_if rfl (fun hb34 => ?_) (fun hb34 => ?_)
      · skip
        refine cw_region ?_
        refine ow_fails rfl F.hb29 rfl (fail_spec 1) aSp ?_
        simp only [List.cons_append, List.nil_append]
        repeat (first | with_reducible refine kw_inBlock_panic ?_ | with_reducible refine kw_then_panic ?_)
        exact kw_errR (ndp_level (by rw [hT]; exact hop) (by rw [hT]; exact htag) (by rw [hT]; have h := hb34; simp only [bne_iff_ne, ne_eq] at h; omega)) (fun _ _ h => h) aSp
      · skip
        have hlv : be ((T.drop 1).take 1) = l := by have h := hb34; simp only [bne_eq_false_iff_eq] at h; omega
        have hn1 := nums_len 2 8 ((T.drop 1).drop 1)
        have hi1 : ((nums 2 8 ((T.drop 1).drop 1)).map fun n : Nat => intV n).length = 8 := by rw [List.length_map, hn1]
        refine cw_skip ?_
        refine kw_code (fun _ _ h => h) ?_
        refine cw_seq ?_
        refine cw_region ?_
        refine ow_y (y_move rfl) ?_
        refine ow_y (y_build (cs := intV l :: (List.replicate 8 (intV 0) ++ List.replicate 32 (Value.int .u8 0))) F.pl220 rfl (by rfl)) ?_
        refine (ow_alloc F.z220 (fun b7 => ?_))
        refine ow_storeAgg F.sz220 rfl rfl (by rfl) (by simp [intV, Value.oneCell']) (by simp [Value.cells]) (splice_all (by rfl)) ?_
        refine ow_nil ?_
        refine kw_code (fun _ _ h => h) ?_
        refine cw_seq ?_
        refine cw_seq ?_
        refine cw_region ?_
        refine ow_y (y_move rfl) ?_
        refine ow_nil ?_
        refine kw_code (fun _ _ h => h) ?_
        refine cw_block ?_
        refine cw_loop (X := {i : Nat // i ≤ 8}) (fun y => [(4, ptr b4), (5, ptr b24), (7, ptr b7), (38, .int .i64 y.1)]) (fun y => [pts b7 (.cells (filled [intV l] ((nums 2 8 ((T.drop 1).drop 1)).map fun n : Nat => intV n) 8 (intV 0) y.1 (List.replicate 32 (Value.int .u8 0))).toArray 220 (0, 0)), pinL b24 (((T.drop 1).drop 1).drop (2 * y.1)), pts b4 (.cells (intV 0 :: (List.replicate 8 (intV 0) ++ List.replicate 32 (Value.int .u8 0))).toArray 220 (0, 0)), R]) (fun y => 8 - y.1) ⟨0, by omega⟩ (by repeat (first | exact Sub.nil | refine Sub.cons rfl ?_)) aSp ?_
        rintro ⟨i, hi⟩ m0 hm0
        try simp only at hm0
        try dsimp only
        skip
        refine cw_seq ?_
        refine cw_region ?_
        refine ow_y (y_lss rfl rfl) ?_
        refine ow_nil ?_
        refine kw_code (fun _ _ h => h) ?_
        refine cw_seq ?_
        refine cw_if rfl (fun hb39 => ?_) (fun hb39 => ?_)
        · skip
          have hi4 : i < 8 := by have := of_decide_eq_true hb39; omega
          have hil : i < (nums 2 8 ((T.drop 1).drop 1)).length := by omega
          refine cw_skip ?_
          refine kw_code (fun _ _ h => h) ?_
          refine cw_seq ?_
          refine cw_block ?_
          refine cw_seq ?_
          refine cw_region ?_
          refine ow_y (y_move rfl) ?_
          refine ow_y (y_assign rfl) ?_
          refine ow_nil ?_
          refine kw_code (fun _ _ h => h) ?_
          refine cw_region ?_
          refine ow_y (y_move rfl) ?_
          refine ow_y (y_move rfl) ?_
          refine ow_gives rfl F.hb155 rfl (numL_ok b24 (((T.drop 1).drop 1).drop (2 * i)) 2 (by omega) (by simp; omega) (by simp; omega)) aSp ?_
          try simp only [List.cons_append, List.nil_append]
          refine ow_y (y_conv F.ts161 F.in3 rfl) ?_
          have hb2 := be_len2 (((T.drop 1).drop 1).drop (2 * i))
          rw [show IntKind.i64.wrap ((be ((((T.drop 1).drop 1).drop (2 * i)).take 2) : Nat) : Int) = (be ((((T.drop 1).drop 1).drop (2 * i)).take 2) : Nat) from wrap_sm _ _ (by omega) (by simp only [IntKind.bits]; omega)]
          refine ow_y (y_fld F.fld220_1 rfl) ?_
          refine ow_y (y_ixa F.ar218 rfl rfl (by omega)) ?_
          refine ow_store F.sz3 rfl rfl rfl (by rw [fill_len hi1 (by omega)]; simp; omega) (fill_set hi1 hi4 (by simp) (by rw [List.getElem?_map, List.getElem?_eq_getElem hil, nums_get]; rfl)) ?_
          refine ow_nil ?_
          rw [drop_step 2 i]
          refine kw_code (fun _ _ h => h) ?_
          refine cw_region ?_
          refine ow_y (y_addI rfl rfl (by omega)) ?_
          refine ow_y (y_move rfl) ?_
          refine ow_nil ?_
          refine kw_rnd (fun _ _ h => h) (⟨i + 1, hi4⟩) (by first | omega | (simp only; omega)) (by repeat (first | exact Sub.nil | refine Sub.cons rfl ?_)) aSp
        · skip
          obtain rfl : i = 8 := by have := of_decide_eq_false hb39; omega
          rw [fill_done hi1, List.drop_drop, List.drop_drop]
          rw [List.drop_drop] at hi1
          refine cw_exit ?_
          refine kw_code (fun _ _ h => h) ?_
          refine cw_seq ?_
          refine cw_mix (.soft 0 (.soft 1 (.soft 2 (.hard 3 (.hard 4 .done))))) [] F.fol (by kernel_rfl) (by repeat (first | with_reducible exact NoSlots.bp | with_reducible apply NoSlots.then | with_reducible apply NoSlots.inBlock)) aSp ?_
          refine om_y rfl (y_fld F.fld220_2 rfl) ?_
          refine om_y rfl (y_sliceArr F.ar175 rfl) ?_
          refine om_y rfl (y_move rfl) ?_
          refine om_h rfl ?_
          refine ow_gives rfl F.hb156 rfl (textL_ok b24 (T.drop (1 + (1 + 2 * 8))) 32 (by simp; omega) (by simp; omega)) aSp ?_
          try simp only [List.cons_append, List.nil_append]
          refine ow_nil ?_
          refine om_next aSp ?_
          refine om_h rfl ?_
          refine ow_copyStr F.sl74 rfl rfl (by rw [bs_size]; simp [nums_len]; omega) (copy_end1 (n := 32) (by rw [hi1]) (by simp) (by simp; omega) rfl) ?_
          refine ow_nil ?_
          refine om_next aSp ?_
          refine om_nil ?_
          refine kw_code (fun _ _ h => h) ?_
          refine cw_seq ?_
          refine cw_region ?_
          refine ow_y (y_move rfl) ?_
          refine ow_ran rfl F.hb215 rfl (izero_spec b24 ((T.drop (1 + (1 + 2 * 8))).drop 32) (by simp; omega)) aSp (fun u6 t6 ho => ?_) (fun e t ho => by (repeat (first | with_reducible refine kw_inBlock_panic ?_ | with_reducible refine kw_then_panic ?_)); exact kw_errR ((by obtain ⟨h6, rfl⟩ := izero_err ho; exact ndp_zero (by rw [hT]; exact hop) (by rw [hT]; exact htag) (by rw [hT]; exact hlv) (by rw [hT, show (50 : Nat) = 1 + (1 + 2 * 8) + 32 from rfl, ← List.drop_drop]; exact h6))) (fun _ _ h => h) aSp)
          try simp only [List.cons_append, List.nil_append]
          refine ow_nil ?_
          refine kw_code (fun _ _ h => h) ?_
          refine cw_seq ?_
          have hz := izero_ok ho
          rw [List.drop_drop] at hz
          have hsz : ∀ l' : B, l'.length = 32 → (intV l :: (((nums 2 8 (T.drop (1 + 1))).map fun n : Nat => intV n) ++ l'.map byteV)).toArray.size = 41 := fun l' hl => by simp [nums_len, hl]
          have hl32 : ((T.drop (1 + (1 + 2 * 8))).take 32).length = 32 := by simp; omega
          generalize hU : (T.drop (1 + (1 + 2 * 8))).take 32 = U at hl32 ⊢
          refine cw_region ?_
          refine ow_y (y_loadAgg F.ag220 rfl (by rw [hsz U hl32]; omega) (extract_all (hsz U hl32))) ?_
          refine ow_storeAgg F.sz220 rfl rfl (hsz U hl32) (fun x hx => by simp at hx; rcases hx with rfl | ⟨_, _, rfl⟩ | ⟨_, _, rfl⟩ <;> rfl) (by rw [hsz U hl32]; simp) (splice_all (by rw [hsz U hl32]; simp)) ?_
          refine ow_nil ?_
          refine kw_code (fun _ _ h => h) ?_
          refine cw_retRC (ndp_ok (by rw [hT]; exact hop) (by rw [hT]; exact htag) (by rw [hT]; exact hlv) (by rw [hT, show (50 : Nat) = 1 + (1 + 2 * 8) + 32 from rfl]; exact hz)) (fun _ _ h => h) (RV.agg F.ag220 rfl (by rw [hsz U hl32]; omega) (extract_all (hsz U hl32)) RV.nil) ?_ aSp
          show Value.agg _ = Value.agg _
          rw [hT, show (18 : Nat) = 1 + (1 + 2 * 8) from rfl, hU, show (1 + 1 : Nat) = 2 from rfl]
          simp [ndL, List.map_map, Function.comp_def]
    · skip
      refine cw_region ?_
      refine ow_y (y_move rfl) ?_
      refine ow_gives rfl F.hb156 rfl (textL_ok b24 T 1 (by omega) (by omega)) aSp ?_
      try simp only [List.cons_append, List.nil_append]
      refine ow_y (y_str_neq rfl rfl) ?_
      refine ow_y (y_move rfl) ?_
      refine ow_skip rfl (fun a w hh => (want_of rfl rfl rfl hh).trans (wFT (by rw [show (⟨#[78]⟩ : ByteArray) = bs [78] from rfl, bs_toList, bs_toList]; simp [htag]))) ?_
      refine ow_skip rfl (fun a w hh => (want_of rfl rfl rfl hh).trans (wFT (by rw [show (⟨#[78]⟩ : ByteArray) = bs [78] from rfl, bs_toList, bs_toList]; simp [htag]))) ?_
      refine ow_skip rfl (fun a w hh => (want_of rfl rfl rfl hh).trans (wFT (by rw [show (⟨#[78]⟩ : ByteArray) = bs [78] from rfl, bs_toList, bs_toList]; simp [htag]))) ?_
      refine ow_skip rfl (fun a w hh => (want_of rfl rfl rfl hh).trans (wFT (by rw [show (⟨#[78]⟩ : ByteArray) = bs [78] from rfl, bs_toList, bs_toList]; simp [htag]))) ?_
      refine ow_skip rfl (fun a w hh => (want_of rfl rfl rfl hh).trans (wFT (by rw [show (⟨#[78]⟩ : ByteArray) = bs [78] from rfl, bs_toList, bs_toList]; simp [htag]))) ?_
      refine ow_y (y_pickT rfl (by rw [show (⟨#[78]⟩ : ByteArray) = bs [78] from rfl, bs_toList, bs_toList]; simp [htag]) rfl) ?_
      refine ow_nil ?_
      refine kw_code (fun _ _ h => h) ?_
      refine cw_true rfl rfl ?_
      refine cw_region ?_
      refine ow_fails rfl F.hb29 rfl (fail_spec 1) aSp ?_
      simp only [List.cons_append, List.nil_append]
      repeat (first | with_reducible refine kw_inBlock_panic ?_ | with_reducible refine kw_then_panic ?_)
      exact kw_errR (ndp_tag (by rw [hT]; exact hop) (by rw [hT]; exact htag)) (fun _ _ h => h) aSp
end Go.Proofs.YthlclfdnhnnebaaGreatDoor
end
section
set_option maxRecDepth 4000
set_option maxHeartbeats 4000000
namespace Go.Proofs.YthlclfdnhnnebaaGreatDoor
open Go.Sl Go.Sb
theorem empty_spec (l : Int) (x : Nd) (h : NdLen x) : Does Tryz.prog 199 #[ndV l x] [] (Gives (.bool (decide (x.kids = none8))) []) := by
  obtain ⟨hn, hu⟩ := h
  unfold ndV
  have c1 : (x.kids.map intV).length = 8 := by simp [hn]
  have c3 : (x.sum.map byteV).length = 32 := by simp [hu]
  refine does_enter Tryz.func199 rfl Tryz.ntmps199 rfl (fun R w0 => ?_)
  simp only [envOf, List.cons_append, List.nil_append]
  refine cw_seq ?_
  refine cw_region ?_
  refine (ow_box rfl (fun b1 => ?_))
  refine ow_y (y_assign rfl) ?_
  refine ow_nil ?_
  refine kw_code (fun _ _ h => h) ?_
  refine cw_seq ?_
  refine cw_region ?_
  refine ow_y (y_fld F.fld220_1 rfl) ?_
  refine ow_y (y_loadAgg F.ag218 rfl (by simp [ndL, c1, c3]) (extract_app (a := [intV l]) rfl c1)) ?_
  refine ow_y (y_buildArr (cs := none8.map intV) F.ar218 F.z218 rfl (by rfl)) ?_
  refine ow_y (y_arr_eql (X := x.kids) (Y := none8) (k := .i64) F.ea218 rfl rfl hn rfl) ?_
  refine ow_y (y_assign rfl) ?_
  refine ow_nil ?_
  refine kw_code (fun _ _ h => h) ?_
  refine cw_retG (fun _ _ h => h) rfl rfl aSp
theorem span_spec (l : Nat) (hl : l < 3) : Does Tryz.prog 183 #[.int .i64 l] [] (Gives (.int .i64 (8 ^ (l + 1) : Nat)) []) := by
  have hmm : min (max (l : Int) 0) 2 = l := by omega
  refine does_enter Tryz.func183 rfl Tryz.ntmps183 rfl (fun R w0 => ?_)
  simp only [envOf, List.cons_append, List.nil_append]
  refine cw_seq ?_
  refine cw_region ?_
  refine ow_y (y_assign rfl) ?_
  refine ow_nil ?_
  refine kw_code (fun _ _ h => h) ?_
  refine cw_seq ?_
  refine cw_region ?_
  refine ow_y (y_assign rfl) ?_
  refine ow_nil ?_
  refine kw_code (fun _ _ h => h) ?_
  refine cw_seq ?_
  refine cw_seq ?_
  refine cw_region ?_
  refine ow_y (y_move rfl) ?_
  refine ow_y (y_max rfl rfl) ?_
  refine ow_y (y_min rfl rfl) ?_
  rw [hmm]
  refine ow_y (y_move rfl) ?_
  refine ow_nil ?_
  refine kw_code (fun _ _ h => h) ?_
  refine cw_block ?_
  refine cw_loop (X := {i : Nat // i ≤ l}) (fun y => [(3, .int .i64 (8 ^ (y.1 + 1) : Nat)), (6, .int .i64 l), (7, .int .i64 y.1)]) (fun y => [R]) (fun y => l - y.1) ⟨0, by omega⟩ (by repeat (first | exact Sub.nil | refine Sub.cons rfl ?_)) aSp ?_
  rintro ⟨i, hi⟩ m0 hm0
  try simp only at hm0
  try dsimp only
  skip
  refine cw_seq ?_
  refine cw_region ?_
  refine ow_y (y_lss rfl rfl) ?_
  refine ow_nil ?_
  refine kw_code (fun _ _ h => h) ?_
  refine cw_seq ?_
  refine cw_if rfl (fun hb8 => ?_) (fun hb8 => ?_)
  · skip
    have hil : i < l := by have := of_decide_eq_true hb8; omega
    obtain ⟨q, hq⟩ : ∃ q, q = 8 ^ (i + 1) := ⟨_, rfl⟩
    have hp : q ≤ 512 := by rw [hq]; exact Nat.pow_le_pow_right (n := 8) (j := 3) (by decide) (by omega)
    rw [← hq]
    refine cw_skip ?_
    refine kw_code (fun _ _ h => h) ?_
    refine cw_seq ?_
    refine cw_block ?_
    refine cw_region ?_
    refine ow_y (y_move rfl) ?_
    refine ow_y (y_mulI rfl rfl (by omega)) ?_
    refine ow_y (y_assign rfl) ?_
    refine ow_nil ?_
    rw [show ((q : Nat) : Int) * 8 = ((8 ^ (i + 1 + 1) : Nat) : Int) from by rw [Nat.pow_succ 8 (i + 1), ← hq]; omega]
    refine kw_code (fun _ _ h => h) ?_
    refine cw_region ?_
    refine ow_y (y_addI rfl rfl (by omega)) ?_
    refine ow_y (y_move rfl) ?_
    refine ow_nil ?_
    refine kw_rnd (fun _ _ h => h) (⟨i + 1, hil⟩) (by first | omega | (simp only; omega)) (by repeat (first | exact Sub.nil | refine Sub.cons rfl ?_)) aSp
  · skip
    obtain rfl : i = l := by have := of_decide_eq_false hb8; omega
    refine cw_exit ?_
    refine kw_code (fun _ _ h => h) ?_
    refine cw_seq ?_
    refine cw_region ?_
    refine ow_y (y_move rfl) ?_
    refine ow_y (y_assign rfl) ?_
    refine ow_nil ?_
    refine kw_code (fun _ _ h => h) ?_
    refine cw_retG (fun _ _ h => h) rfl rfl aSp
theorem slot_spec (l at_ : Nat) (hl : l < 3) (ha : at_ < 1000000) : Does Tryz.prog 138 #[.int .i64 l, .int .i64 at_] [] (Gives (.tuple #[.int .i64 (slot l at_).1, .int .i64 (slot l at_).2]) []) := by
  have hs := span_spec l hl
  obtain ⟨p, hp⟩ : ∃ p, p = 8 ^ l := ⟨_, rfl⟩
  have hp1 : 0 < p := by rw [hp]; exact Nat.pow_pos (by decide)
  have hp2 : p ≤ 64 := by rw [hp]; exact Nat.pow_le_pow_right (n := 8) (j := 2) (by decide) (by omega)
  rw [Nat.pow_succ, ← hp] at hs
  simp only [slot]
  rw [← hp]
  obtain ⟨q, hq0⟩ : ∃ q, q = at_ / p := ⟨_, rfl⟩
  have hdl : q ≤ at_ := by rw [hq0]; exact Nat.div_le_self _ _
  have hq : ((at_ : Int) / (p : Int)) = (q : Int) := by rw [hq0]; simp
  rw [← hq0]
  refine does_enter Tryz.func138 rfl Tryz.ntmps138 rfl (fun R w0 => ?_)
  simp only [envOf, List.cons_append, List.nil_append]
  refine cw_seq ?_
  refine cw_region ?_
  refine ow_y (y_assign rfl) ?_
  refine ow_y (y_assign rfl) ?_
  refine ow_nil ?_
  refine kw_code (fun _ _ h => h) ?_
  refine cw_seq ?_
  refine cw_region ?_
  refine ow_y (y_move rfl) ?_
  refine ow_gives rfl F.hb183 rfl (hs) aSp ?_
  try simp only [List.cons_append, List.nil_append]
  refine ow_y (y_quoI rfl rfl (by omega)) ?_
  rw [show ((p * 8 : Nat) : Int) / 8 = (p : Int) from by omega]
  refine ow_y (y_assign rfl) ?_
  refine ow_nil ?_
  refine kw_code (fun _ _ h => h) ?_
  refine cw_seq ?_
  refine cw_soft F.fol (by kernel_rfl) ?_
  refine os_y (y_move rfl) ?_
  refine os_y (y_move rfl) ?_
  refine os_y (y_quoI rfl rfl (by omega)) ?_
  rw [hq]
  refine os_y (y_remI rfl rfl (by omega)) ?_
  refine os_y (y_move rfl) ?_
  refine os_y (y_move rfl) ?_
  refine os_y (y_remI rfl rfl (by omega)) ?_
  refine os_y (y_assign rfl) ?_
  refine os_y (y_assign rfl) ?_
  refine os_nil ?_
  refine kw_code (fun _ _ h => h) ?_
  refine cw_retG (fun _ _ h => h) rfl (by simp) aSp
end Go.Proofs.YthlclfdnhnnebaaGreatDoor
end
section
namespace Go.Sl
def w32 (x : BitVec 32) : Value := .int .u32 (x.toNat : Int)
theorem bits_xorB (a b : BitVec 32) : bits .xor .u32 (a.toNat : Int) (b.toNat : Int) = ((a ^^^ b).toNat : Int) := by
  simp only [bits, BitVec.ofInt_natCast, BitVec.ofNat_toNat, BitVec.setWidth_eq, IntKind.bits]
  rw [IntKind.wrap_u32]
  exact Int.emod_eq_of_lt (Int.natCast_nonneg _) (by have := (a ^^^ b).isLt; omega)
theorem bits_andB (a b : BitVec 32) : bits .and .u32 (a.toNat : Int) (b.toNat : Int) = ((a &&& b).toNat : Int) := by
  simp only [bits, BitVec.ofInt_natCast, BitVec.ofNat_toNat, BitVec.setWidth_eq, IntKind.bits]
  rw [IntKind.wrap_u32]
  exact Int.emod_eq_of_lt (Int.natCast_nonneg _) (by have := (a &&& b).isLt; omega)
theorem bits_orB (a b : BitVec 32) : bits .or .u32 (a.toNat : Int) (b.toNat : Int) = ((a ||| b).toNat : Int) := by
  simp only [bits, BitVec.ofInt_natCast, BitVec.ofNat_toNat, BitVec.setWidth_eq, IntKind.bits]
  rw [IntKind.wrap_u32]
  exact Int.emod_eq_of_lt (Int.natCast_nonneg _) (by have := (a ||| b).isLt; omega)
section
variable {c : Cx} {env : List (Nat × Value)} {L : List Asrt} {d : Option Tmp} {ty : TypeId} {pos : String} {af : Array Edge} {g : Option (Nat × Bool)} {x y : Operand} {t yt : TypeId} {X Y : BitVec 32}
theorem y_xorB (hx : evo env x = some (w32 X)) (hy : evo env y = some (w32 Y)) : Yields c ⟨d, .binOp .xor t x y yt, ty, pos, af, g⟩ env L (w32 (X ^^^ Y)) := by
  unfold w32; rw [← bits_xorB]; exact y_xor hx hy
theorem y_andB (hx : evo env x = some (w32 X)) (hy : evo env y = some (w32 Y)) : Yields c ⟨d, .binOp .and t x y yt, ty, pos, af, g⟩ env L (w32 (X &&& Y)) := by
  unfold w32; rw [← bits_andB]; exact y_and hx hy
theorem y_orB (hx : evo env x = some (w32 X)) (hy : evo env y = some (w32 Y)) : Yields c ⟨d, .binOp .or t x y yt, ty, pos, af, g⟩ env L (w32 (X ||| Y)) := by
  unfold w32; rw [← bits_orB]; exact y_or hx hy
theorem y_addB (hx : evo env x = some (w32 X)) (hy : evo env y = some (w32 Y)) : Yields c ⟨d, .binOp .add t x y yt, ty, pos, af, g⟩ env L (w32 (X + Y)) := by
  have e : ((X + Y).toNat : Int) = IntKind.u32.wrap ((X.toNat : Int) + (Y.toNat : Int)) := by rw [IntKind.wrap_u32, BitVec.toNat_add]; omega
  unfold w32; rw [e]; exact y_add hx hy
theorem y_invB (hx : evo env x = some (w32 X)) : Yields c ⟨d, .unOp .xor t x, ty, pos, af, g⟩ env L (w32 (~~~ X)) := by
  have h : (if IntKind.u32.signed then -1 else IntKind.u32.max) = ((BitVec.allOnes 32).toNat : Int) := by decide
  have e : (~~~ X) = BitVec.allOnes 32 ^^^ X := by rw [BitVec.xor_comm]; exact BitVec.xor_allOnes.symm
  have := y_inv (c := c) (env := env) (L := L) (d := d) (t := t) (ty := ty) (pos := pos) (af := af) (g := g) (x := x) (k := .u32) hx
  rw [h, bits_xorB, ← e] at this
  exact this
theorem y_shrB {j : IntKind} {n : Nat} (hx : evo env x = some (w32 X)) (hy : evo env y = some (.int j (n : Int))) (hn : n ≤ 32) : Yields c ⟨d, .binOp .shr t x y yt, ty, pos, af, g⟩ env L (w32 (X >>> n)) := by
  have e : ((X >>> n).toNat : Int) = (X.toNat : Int) / 2 ^ ((n : Int)).toNat := by
    rw [BitVec.toNat_ushiftRight, Nat.shiftRight_eq_div_pow, Int.toNat_natCast]; norm_cast
  unfold w32; rw [e]; exact y_shr hx hy ⟨by omega, by simp only [IntKind.bits]; omega⟩
theorem y_shlB {j : IntKind} {n : Nat} (hx : evo env x = some (w32 X)) (hy : evo env y = some (.int j (n : Int))) (hn : n ≤ 32) : Yields c ⟨d, .binOp .shl t x y yt, ty, pos, af, g⟩ env L (w32 (X <<< n)) := by
  have e : ((X <<< n).toNat : Int) = IntKind.u32.wrap ((X.toNat : Int) * 2 ^ ((n : Int)).toNat) := by
    rw [BitVec.toNat_shiftLeft, Nat.shiftLeft_eq, Int.toNat_natCast, IntKind.wrap_u32]
    have : ((X.toNat : Int) * 2 ^ n) = ((X.toNat * 2 ^ n : Nat) : Int) := by norm_cast
    rw [this]; omega
  unfold w32; rw [e]; exact y_shl hx hy ⟨by omega, by simp only [IntKind.bits]; omega⟩
theorem y_convB {ts tt : TypeId} {b : UInt8} (hs : (c.P.underlying ts).isSome = true) (ht : tyInt c.P tt .u32 = true) (hx : evo env x = some (.int .u8 (b.toNat : Int))) : Yields c ⟨d, .convert ts tt x, ty, pos, af, g⟩ env L (w32 (b.toBitVec.setWidth 32)) := by
  have e : ((b.toBitVec.setWidth 32).toNat : Int) = IntKind.u32.wrap (b.toNat : Int) := by
    rw [IntKind.wrap_u32, BitVec.toNat_setWidth]
    have h := b.toNat_lt
    have e : b.toBitVec.toNat = b.toNat := rfl
    rw [e]; omega
  unfold w32; rw [e]; exact y_conv hs ht hx
theorem y_convByte {ts tt : TypeId} (hs : (c.P.underlying ts).isSome = true) (ht : tyInt c.P tt .u8 = true) (hx : evo env x = some (w32 X)) : Yields c ⟨d, .convert ts tt x, ty, pos, af, g⟩ env L (.int .u8 (((⟨X.setWidth 8⟩ : UInt8).toNat : Nat) : Int)) := by
  have e : (((⟨X.setWidth 8⟩ : UInt8).toNat : Nat) : Int) = IntKind.u8.wrap (X.toNat : Int) := by
    have e : (⟨X.setWidth 8⟩ : UInt8).toNat = (X.setWidth 8).toNat := rfl
    rw [e, IntKind.wrap_u8, BitVec.toNat_setWidth]; omega
  rw [e]; exact y_conv hs ht hx
end
theorem rot_eq (X : BitVec 32) (k : Nat) (h : k < 32) : X <<< (32 - k) ||| X >>> k = X.rotateRight k := by
  rw [BitVec.rotateRight_def, Nat.mod_eq_of_lt h, BitVec.or_comm]
theorem y_loadTab {c : Cx} {env : List (Nat × Value)} {L M : List Asrt} {dd : Option Tmp} {ty : TypeId} {pos : String} {af : Array Edge} {g : Option (Nat × Bool)} {x : Operand} {t : TypeId} {W : World} {gl n : Nat} {name : String} {cs : Array Value}
    (ht : tyAgg c.P t n = true) (hx : evo env x = some (.pointer (some ⟨gl, 0, none⟩))) (hL : Fnd L (whole W) M) (hg : c.P.globalNamed name = some gl) (hv : W.var? c.P name = some cs) (hn : cs.size = n) :
    Yields c ⟨dd, .load t x, ty, pos, af, g⟩ env L (.agg cs) := by
  intro a w h
  have hW : ∃ e fr, w.heap[gl]? = some (.cells cs e fr) := by
    unfold World.var? at hv
    rw [hg] at hv
    simp only [Option.bind_some] at hv
    split at hv
    · rename_i cs' e fr he
      cases hv
      have hlt : gl < W.heap.size := by
        rcases Nat.lt_or_ge gl W.heap.size with h | h
        · exact h
        · rw [Array.getElem?_eq_none h] at he; cases he
      exact ⟨e, fr, by rw [(hL.sat h.sat).whole_block gl hlt]; exact he⟩
    · cases hv
  obtain ⟨e, fr, hh⟩ := hW
  have e1 : (loadVar t ⟨gl, 0, none⟩).run c.P w = .ok (.agg cs) w := by
    simp only [loadVar, Sem.run_bind, run_isAgg_agg ht, run_sizeOf_agg ht, Result.andThen_ok, if_true]
    rw [run_loadCells_blk hh (by omega)]
    have : cs.extract 0 (0 + n) = cs := by apply Array.ext'; simp [← hn]
    rw [this]; rfl
  simp [execOp, h.eval hx, Instr.loadAt, Instr.sureAddr, e1]
end Go.Sl
end
