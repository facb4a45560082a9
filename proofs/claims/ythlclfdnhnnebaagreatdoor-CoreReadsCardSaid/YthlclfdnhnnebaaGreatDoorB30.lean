/- Part of the proof; no statement of its own: A33, A34, A35. -/
import Derived.Test.YthlclfdnhnnebaaGreatDoorB08
import Derived.Test.YthlclfdnhnnebaaGreatDoorB06
import Derived.Test.YthlclfdnhnnebaaGreatDoorB07
import Derived.Test.YthlclfdnhnnebaaGreatDoorB29
set_option linter.all false
section
set_option maxRecDepth 4000
set_option maxHeartbeats 4000000
namespace Go.Proofs.YthlclfdnhnnebaaGreatDoor
open Go.Sl Go.Sb
abbrev celFE (b : Nat) (g : FuncId) (cap : List Value) : Asrt := pts b (.cells #[.func (.func g) #[] cap.toArray] 73 (0, 0))
abbrev MadeSpec (W : World) (a : Ad) (AD : Asrt) (g : FuncId) (cap : List Value) (bits : Nat) (made : M Ent) : Prop := ∀ t : St, t.bits = bits → (made t).1 ≠ .big →
  Does Tryz.prog g cap.toArray (RS W a t ++ [AD]) (Ran fT (fun u => RS W a u ++ [AD]) entA (made t))
abbrev moreA0 (a : Ad) (AD : Asrt) (b0 b1 b2 : Nat) (g : FuncId) (cap : List Value) : Asrt := star [celC b0 a, celFE b1 g cap, celU b2 0, AD]
theorem more1_spec (W : World) (a : Ad) (AD : Asrt) (b0 b1 b2 : Nat) (g : FuncId) (cap : List Value) (made : M Ent) (bits : Nat) (hb : hasBody Tryz.prog g = true) (hg : MadeSpec W a AD g cap bits made) :
    RunSpec W a (moreA0 a AD b0 b1 b2 g cap) (fun id => celU b2 id) 74 [ptr b0, ptr b1, ptr b2] bits (andThen made cadd) := by
  intro s hbits hnb
  simp only [List.cons_append, List.nil_append]
  refine does_enter Tryz.func74 rfl Tryz.ntmps74 rfl (fun R w0 => ?_)
  simp only [envOf, List.cons_append, List.nil_append]
  refine cw_star (show Fnd _ (star [celC b0 a, celFE b1 g cap, celU b2 0, AD]) _ from aFd) ?_
  simp only [List.cons_append, List.nil_append]
  refine cw_mix (.soft 0 (.soft 1 (.hard 2 (.hard 3 (.hard 4 .done))))) [celC b0 a, celFE b1 g cap] F.fol (by kernel_rfl) (by repeat (first | with_reducible exact NoSlots.bp | with_reducible apply NoSlots.then | with_reducible apply NoSlots.inBlock)) aSp ?_
  refine om_y rfl (y_load F.sc29 rfl (by rfl)) ?_
  refine om_y rfl (y_load F.sc73 rfl (by rfl)) ?_
  refine om_h rfl ?_
  refine ow_ran rfl hb rfl (hg s hbits (big1 hnb)) aSp (fun x t ho => ?_) (fun e t ho => by (repeat (first | with_reducible refine kw_inBlock_panic ?_ | with_reducible refine kw_then_panic ?_)); (refine kw_said (fun w h => sat_nostar h) ?_; exact kw_errR (alsoC_err' (andThen_err ho)) (fun _ _ h => h) aSp))
  try simp only [List.cons_append, List.nil_append]
  refine ow_nil ?_
  refine om_next aSp ?_
  refine om_h rfl ?_
  have h9 := ho
  refine ow_ran rfl F.hb75 rfl (cadd_spec W a t x (big2 hnb h9)) aSp (fun id u ho => ?_) (fun e t ho => by (repeat (first | with_reducible refine kw_inBlock_panic ?_ | with_reducible refine kw_then_panic ?_)); (refine kw_said (fun w h => sat_nostar h) ?_; exact kw_errR (alsoC_err' ((andThen_ok h9).trans ho)) (fun _ _ h => h) aSp))
  try simp only [List.cons_append, List.nil_append]
  refine ow_nil ?_
  refine om_next aSp ?_
  refine om_h rfl ?_
  refine (ow_store F.sz26 rfl rfl (by first | rfl | assumption) (by rfl) (by (try simp only [List.set_cons_zero, List.set_cons_succ, Nat.reduceAdd, Nat.reduceMul, Int.reduceToNat, Nat.zero_add, Nat.add_zero]); rfl) ?_)
  refine ow_nil ?_
  refine om_next aSp ?_
  refine om_nil ?_
  exact kw_finR (s := (u, .done id)) (alsoC_ok' ((andThen_ok h9).trans ho)) rfl rfl aSp
def pairV (p : Int × Int) : Value := .tuple #[.int .u32 p.1, .int .i64 p.2]
theorem cmore_spec (W : World) (a : Ad) (AD : Asrt) (g : FuncId) (cap : List Value) (made : M Ent) (s : St) (hb : hasBody Tryz.prog g = true) (hvl : s.vols.length ≤ 1000) (hg : MadeSpec W a AD g cap s.bits made) (hnb : (cmoreA made s).1 ≠ .big) :
    Does Tryz.prog 24 #[ptr a.core, .func (.func g) #[] cap.toArray] (RS W a s ++ [AD]) (Ran fT (RS W a) pairV (cmoreA made s)) := by
  simp only [List.cons_append, List.nil_append]
  by_cases h16 : 16 ≤ s.vols.length
  · rw [show cmoreA made s = (.ok (0, 13), s) by unfold cmoreA; rw [if_pos h16]]
    refine does_enter Tryz.func24 rfl Tryz.ntmps24 rfl (fun R w0 => ?_)
    simp only [envOf, List.cons_append, List.nil_append]
    refine cw_seq ?_
    refine cw_region ?_
    refine (ow_box rfl (fun b2 => ?_))
    refine (ow_box rfl (fun b3 => ?_))
    refine ow_y (y_assign rfl) ?_
    refine ow_y (y_assign rfl) ?_
    refine ow_nil ?_
    refine kw_code (fun _ _ h => h) ?_
    refine cw_seq ?_
    refine cw_seq ?_
    refine cw_region ?_
    refine ow_y (y_load F.sc29 rfl (by rfl)) ?_
    refine ow_y (y_nil rfl) ?_
    refine ow_y (y_fld F.fld69_2 rfl) ?_
    refine ow_y (y_core F.sc67 rfl aFd rfl) ?_
    refine ow_y (y_open aFd fun by_ gv gc o => by rw [openTT]; simp only [List.cons_append, List.nil_append]; exact y_mlen F.mp67 rfl aFd) ?_
    refine ow_y (y_geq rfl rfl) ?_
    refine ow_nil ?_
    refine kw_code (fun _ _ h => h) ?_
    refine cw_true rfl (by first | rfl | exact decide_eq_true (by omega)) ?_
    refine cw_seq ?_
    refine cw_region ?_
    refine ow_y (y_assign rfl) ?_
    refine ow_y (y_assign rfl) ?_
    refine ow_nil ?_
    refine kw_code (fun _ _ h => h) ?_
    exact cw_retR rfl (fun _ _ h => h) rfl rfl aSp
  · have e0 : cmoreA made s = andThen (tryA (roomC 1 (andThen made cadd))) (fun r => ret (if r.1 = 0 then (carOr 0 r.2, 0) else (0, r.1))) s := by unfold cmoreA; rw [if_neg h16]
    have hn : (tryA (roomC 1 (andThen made cadd)) s).1 ≠ .big := by rw [e0] at hnb; exact big1 hnb
    refine does_enter Tryz.func24 rfl Tryz.ntmps24 rfl (fun R w0 => ?_)
    simp only [envOf, List.cons_append, List.nil_append]
    refine cw_seq ?_
    refine cw_region ?_
    refine (ow_box rfl (fun b2 => ?_))
    refine (ow_box rfl (fun b3 => ?_))
    refine ow_y (y_assign rfl) ?_
    refine ow_y (y_assign rfl) ?_
    refine ow_nil ?_
    refine kw_code (fun _ _ h => h) ?_
    refine cw_seq ?_
    refine cw_seq ?_
    refine cw_region ?_
    refine ow_y (y_load F.sc29 rfl (by rfl)) ?_
    refine ow_y (y_nil rfl) ?_
    refine ow_y (y_fld F.fld69_2 rfl) ?_
    refine ow_y (y_core F.sc67 rfl aFd rfl) ?_
    refine ow_y (y_open aFd fun by_ gv gc o => by rw [openTT]; simp only [List.cons_append, List.nil_append]; exact y_mlen F.mp67 rfl aFd) ?_
    refine ow_y (y_geq rfl rfl) ?_
    refine ow_nil ?_
    refine kw_code (fun _ _ h => h) ?_
    refine cw_false rfl (by first | rfl | exact decide_eq_false (by omega)) ?_
    refine cw_skip ?_
    refine kw_code (fun _ _ h => h) ?_
    refine cw_seq ?_
    refine cw_region ?_
    refine (ow_alloc F.z26 (fun b6 => ?_))
    refine (ow_store F.sz26 rfl rfl (by first | rfl | assumption) (by rfl) (by (try simp only [List.set_cons_zero, List.set_cons_succ, Nat.reduceAdd, Nat.reduceMul, Int.reduceToNat, Nat.zero_add, Nat.add_zero]); rfl) ?_)
    refine ow_nil ?_
    refine kw_code (fun _ _ h => h) ?_
    refine cw_seq ?_
    refine cw_region ?_
    refine ow_y (y_load F.sc29 rfl (by rfl)) ?_
    refine ow_y (y_func rfl rfl rfl) ?_
    refine ow_said (sat_pack (N := [celC b2 a, celFE b3 g cap, celU b6 0, AD]) aSp) ?_
    refine ow_ran rfl F.hb26 rfl (ctry_spec W a (moreA0 a AD b2 b3 b6 g cap) (fun id => celU b6 id) 1 74 [ptr b2, ptr b3, ptr b6] (andThen made cadd) s F.hb74 (by omega) hvl (more1_spec W a AD b2 b3 b6 g cap made s.bits hb hg) hn) aSp (fun e ⟨t, oc⟩ ho => ?_) (fun e t ho => by (repeat (first | with_reducible refine kw_inBlock_panic ?_ | with_reducible refine kw_then_panic ?_)); (exact (tryC_noerr ho).elim))
    try simp only [List.cons_append, List.nil_append]
    refine ow_y (y_assign rfl) ?_
    refine ow_nil ?_
    have e1 := e0.trans (andThen_ok (tryA_ok ho))
    try simp only [RSC]
    refine kw_code (fun _ _ h => h) ?_
    refine cw_seq ?_
    refine cw_seq ?_
    refine cw_region ?_
    refine ow_y (y_move rfl) ?_
    refine ow_y (y_neq rfl rfl) ?_
    refine ow_nil ?_
    refine kw_code (fun _ _ h => h) ?_
    refine cw_if rfl (fun hb18 => ?_) (fun hb18 => ?_)
    · skip
      have hz : e ≠ 0 := by have h := hb18; simp only [bne_iff_ne, ne_eq] at h; exact h
      refine cw_seq ?_
      refine cw_region ?_
      refine ow_y (y_move rfl) ?_
      refine ow_y (y_assign rfl) ?_
      refine ow_y (y_assign rfl) ?_
      refine ow_nil ?_
      refine kw_code (fun _ _ h => h) ?_
      exact cw_retR (by rw [e1, if_neg hz]; rfl) (fun _ _ h => h) rfl rfl aSp
    · skip
      have hz : e = 0 := by have h := hb18; simp only [bne_eq_false_iff_eq] at h; exact h
      obtain ⟨y, rfl, _⟩ | ⟨_, h9⟩ := tryC_ok ho
      rotate_left
      · exact (h9 hz).elim
      simp only [carP]
      subst hz
      refine cw_skip ?_
      refine kw_code (fun _ _ h => h) ?_
      refine cw_seq ?_
      refine cw_region ?_
      refine ow_y (y_load F.sc26 rfl (by rfl)) ?_
      refine ow_y (y_move rfl) ?_
      refine ow_y (y_assign rfl) ?_
      refine ow_y (y_assign rfl) ?_
      refine ow_nil ?_
      refine kw_code (fun _ _ h => h) ?_
      exact cw_retR (by rw [e1, if_pos rfl]; rfl) (fun _ _ h => h) rfl rfl aSp
theorem create1_spec (W : World) (a : Ad) (b0 : Nat) (size : Int) (bits : Nat) : MadeSpec W a (celI b0 size) 25 [ptr b0] bits (ret { ent0 with size := size }) := by
  intro s hbits hnb
  have hs1 : (entV { ent0 with size := size }).toArray.size = 6 := rfl
  simp only [List.cons_append, List.nil_append]
  refine does_enter Tryz.func25 rfl Tryz.ntmps25 rfl (fun R w0 => ?_)
  simp only [envOf, List.cons_append, List.nil_append]
  refine cw_seq ?_
  refine cw_region ?_
  refine (ow_alloc F.z72 (fun b1 => ?_))
  refine ow_nil ?_
  refine kw_code (fun _ _ h => h) ?_
  refine cw_seq ?_
  refine cw_region ?_
  refine ow_y (y_load F.sc3 rfl (by rfl)) ?_
  refine ow_y (y_build (cs := entV { ent0 with size := size }) F.pl72 rfl (by rfl)) ?_
  refine ow_storeAgg F.sz72 rfl rfl rfl (by simp [entV, Value.oneCell']) (by simp [entV, Value.cells]) (splice_all (by simp [entV, Value.cells])) ?_
  refine ow_nil ?_
  refine kw_code (fun _ _ h => h) ?_
  exact cw_retRC rfl (fun _ _ h => h) (RV.agg F.ag72 rfl (by simp [Value.cells, entV]) (extract_all (by simp [Value.cells, entV])) RV.nil) rfl aSp
theorem ccreate_spec (W : World) (a : Ad) (s : St) (size : Int) (hvl : s.vols.length ≤ 1000) (hnb : (ccreateA size s).1 ≠ .big) : Does Tryz.prog 8 #[ptr a.core, .int .i64 size] (RS W a s) (Ran fT (RS W a) pairV (ccreateA size s)) := by
  by_cases h1 : size < 1
  · rw [show ccreateA size s = (.ok (0, 4), s) by unfold ccreateA; rw [if_pos (.inl h1)]; rfl]
    refine does_enter Tryz.func8 rfl Tryz.ntmps8 rfl (fun R w0 => ?_)
    simp only [envOf, List.cons_append, List.nil_append]
    refine cw_seq ?_
    refine cw_region ?_
    refine (ow_box rfl (fun b3 => ?_))
    refine ow_y (y_assign rfl) ?_
    refine ow_y (y_assign rfl) ?_
    refine ow_nil ?_
    refine kw_code (fun _ _ h => h) ?_
    refine cw_seq ?_
    refine cw_seq ?_
    refine cw_region ?_
    refine ow_y (y_load F.sc3 rfl (by rfl)) ?_
    refine ow_y (y_lss rfl rfl) ?_
    refine ow_y (y_move rfl) ?_
    refine ow_skip rfl (fun a w hh => (want_of rfl rfl rfl hh).trans (wFT (by first | rfl | exact decide_eq_true (by omega)))) ?_
    refine ow_skip rfl (fun a w hh => (want_of rfl rfl rfl hh).trans (wFT (by first | rfl | exact decide_eq_true (by omega)))) ?_
    refine ow_y (y_pickT rfl (by first | rfl | exact decide_eq_true (by omega)) rfl) ?_
    refine ow_nil ?_
    refine kw_code (fun _ _ h => h) ?_
    refine cw_true rfl rfl ?_
    refine cw_seq ?_
    refine cw_region ?_
    refine ow_y (y_assign rfl) ?_
    refine ow_y (y_assign rfl) ?_
    refine ow_nil ?_
    refine kw_code (fun _ _ h => h) ?_
    exact cw_retR rfl (fun _ _ h => h) rfl rfl aSp
  · by_cases h2 : 2048 < size
    · rw [show ccreateA size s = (.ok (0, 4), s) by unfold ccreateA; rw [if_pos (.inr h2)]; rfl]
      refine does_enter Tryz.func8 rfl Tryz.ntmps8 rfl (fun R w0 => ?_)
      simp only [envOf, List.cons_append, List.nil_append]
      refine cw_seq ?_
      refine cw_region ?_
      refine (ow_box rfl (fun b3 => ?_))
      refine ow_y (y_assign rfl) ?_
      refine ow_y (y_assign rfl) ?_
      refine ow_nil ?_
      refine kw_code (fun _ _ h => h) ?_
      refine cw_seq ?_
      refine cw_seq ?_
      refine cw_region ?_
      refine ow_y (y_load F.sc3 rfl (by rfl)) ?_
      refine ow_y (y_lss rfl rfl) ?_
      refine ow_y (y_move rfl) ?_
      refine ow_yg (y_load F.sc3 rfl (by rfl)) (fun a w hh => (want_of rfl rfl rfl hh).trans (wFF (by first | rfl | exact decide_eq_false (by omega)))) ?_
      refine ow_yg (y_gtr rfl rfl) (fun a w hh => (want_of rfl rfl rfl hh).trans (wFF (by first | rfl | exact decide_eq_false (by omega)))) ?_
      refine ow_y (y_pickF rfl (by first | rfl | exact decide_eq_false (by omega)) rfl) ?_
      refine ow_nil ?_
      refine kw_code (fun _ _ h => h) ?_
      refine cw_true rfl (by first | rfl | exact decide_eq_true (by omega)) ?_
      refine cw_seq ?_
      refine cw_region ?_
      refine ow_y (y_assign rfl) ?_
      refine ow_y (y_assign rfl) ?_
      refine ow_nil ?_
      refine kw_code (fun _ _ h => h) ?_
      exact cw_retR rfl (fun _ _ h => h) rfl rfl aSp
    · have e0 : ccreateA size s = cmoreA (ret { ent0 with size := size }) s := by unfold ccreateA; rw [if_neg (by omega)]
      rw [e0] at hnb ⊢
      refine does_enter Tryz.func8 rfl Tryz.ntmps8 rfl (fun R w0 => ?_)
      simp only [envOf, List.cons_append, List.nil_append]
      refine cw_seq ?_
      refine cw_region ?_
      refine (ow_box rfl (fun b3 => ?_))
      refine ow_y (y_assign rfl) ?_
      refine ow_y (y_assign rfl) ?_
      refine ow_nil ?_
      refine kw_code (fun _ _ h => h) ?_
      refine cw_seq ?_
      refine cw_seq ?_
      refine cw_region ?_
      refine ow_y (y_load F.sc3 rfl (by rfl)) ?_
      refine ow_y (y_lss rfl rfl) ?_
      refine ow_y (y_move rfl) ?_
      refine ow_yg (y_load F.sc3 rfl (by rfl)) (fun a w hh => (want_of rfl rfl rfl hh).trans (wFF (by first | rfl | exact decide_eq_false (by omega)))) ?_
      refine ow_yg (y_gtr rfl rfl) (fun a w hh => (want_of rfl rfl rfl hh).trans (wFF (by first | rfl | exact decide_eq_false (by omega)))) ?_
      refine ow_y (y_pickF rfl (by first | rfl | exact decide_eq_false (by omega)) rfl) ?_
      refine ow_nil ?_
      refine kw_code (fun _ _ h => h) ?_
      refine cw_false rfl (by first | rfl | exact decide_eq_false (by omega)) ?_
      refine cw_skip ?_
      refine kw_code (fun _ _ h => h) ?_
      refine cw_seq ?_
      refine cw_region ?_
      refine ow_y (y_move rfl) ?_
      refine ow_y (y_func rfl rfl rfl) ?_
      refine ow_ran rfl F.hb24 rfl (cmore_spec W a (celI b3 size) 25 [ptr b3] (ret { ent0 with size := size }) s F.hb25 hvl (create1_spec W a b3 size s.bits) hnb) aSp (fun p t ho => ?_) (fun e t ho => by (repeat (first | with_reducible refine kw_inBlock_panic ?_ | with_reducible refine kw_then_panic ?_)); exact kw_errR (ho) (fun _ _ h => h) aSp)
      try simp only [List.cons_append, List.nil_append]
      refine ow_y (y_ext rfl rfl) ?_
      refine ow_y (y_ext rfl rfl) ?_
      refine ow_y (y_assign rfl) ?_
      refine ow_y (y_assign rfl) ?_
      refine ow_nil ?_
      refine kw_code (fun _ _ h => h) ?_
      exact cw_retR ho (fun _ _ h => h) rfl rfl aSp
end Go.Proofs.YthlclfdnhnnebaaGreatDoor
end
section
set_option maxRecDepth 4000
set_option maxHeartbeats 4000000
namespace Go.Proofs.YthlclfdnhnnebaaGreatDoor
open Go.Sl Go.Sb
theorem share_spec (W : World) (a : Ad) (s : St) (root : Int) (hnb : (rmore root 3 s).1 ≠ .big) : Does Tryz.prog 121 #[ptr a.maps, .int .i64 root] (RS W a s) (Ran fT (RS W a) unitV (rmore root 3 s)) := by
  refine does_enter Tryz.func121 rfl Tryz.ntmps121 rfl (fun R w0 => ?_)
  simp only [envOf, List.cons_append, List.nil_append]
  refine cw_region ?_
  refine ow_y (y_move rfl) ?_
  refine ow_y (y_move rfl) ?_
  refine ow_ran rfl F.hb167 rfl (rmore_spec W a s root 3 hnb) aSp (fun u t ho => ?_) (fun e t ho => by (repeat (first | with_reducible refine kw_inBlock_panic ?_ | with_reducible refine kw_then_panic ?_)); exact kw_errR (ho) (fun _ _ h => h) aSp)
  try simp only [List.cons_append, List.nil_append]
  refine ow_nil ?_
  exact kw_finR ho rfl rfl aSp
abbrev celB (b : Nat) (x : Bool) : Asrt := pts b (.cells #[.bool x] 4 (0, 0))
abbrev copyA0 (a : Ad) (b0 b1 b2 : Nat) (id : Int) (only : Bool) : Asrt := star [celC b0 a, celU b1 id, celB b2 only]
theorem copy1_spec (W : World) (a : Ad) (b0 b1 b2 : Nat) (id : Int) (only : Bool) (bits : Nat) : MadeSpec W a (copyA0 a b0 b1 b2 id only) 120 [ptr b0, ptr b1, ptr b2] bits (copyM id only) := by
  intro s hbits hnb
  have e0 : copyM id only s = andThen (find id) (fun x => andThen (rmore x.root 3) fun _ => ret { ent0 with parent := id, only := only, size := x.size, root := x.root }) s := rfl
  simp only [List.cons_append, List.nil_append]
  refine does_enter Tryz.func120 rfl Tryz.ntmps120 rfl (fun R w0 => ?_)
  simp only [envOf, List.cons_append, List.nil_append]
  refine cw_star (show Fnd _ (star [celC b0 a, celU b1 id, celB b2 only]) _ from aFd) ?_
  simp only [List.cons_append, List.nil_append]
  refine cw_seq ?_
  refine cw_region ?_
  refine (ow_alloc F.z72 (fun b3 => ?_))
  refine ow_nil ?_
  refine kw_code (fun _ _ h => h) ?_
  refine cw_seq ?_
  refine cw_region ?_
  refine ow_y (y_load F.sc29 rfl (by rfl)) ?_
  refine ow_y (y_load F.sc26 rfl (by rfl)) ?_
  refine ow_ran rfl F.hb35 rfl (find_spec W a s id) aSp (fun x t ho => ?_) (fun e t ho => by (repeat (first | with_reducible refine kw_inBlock_panic ?_ | with_reducible refine kw_then_panic ?_)); (refine kw_said (sat_pack (N := [celC b0 a, celU b1 id, celB b2 only]) aSp) ?_; exact kw_errR (e0.trans (andThen_err ho)) (fun _ _ h => h) aSp))
  try simp only [List.cons_append, List.nil_append]
  have h9 := ho
  refine (ow_alloc F.z72 (fun b4 => ?_))
  refine ow_storeAgg F.sz72 rfl rfl rfl (by simp [entV, Value.oneCell']) (by simp [entV, Value.cells]) (splice_all (by simp [entV, Value.cells])) ?_
  refine ow_nil ?_
  refine kw_code (fun _ _ h => h) ?_
  refine cw_seq ?_
  refine cw_tail 6 F.fol (by kernel_rfl) ?_
  simp only [List.take_succ_cons, List.take_zero, List.drop_succ_cons, List.drop_zero]
  refine os_y (y_load F.sc29 rfl (by rfl)) ?_
  refine os_y (y_nil rfl) ?_
  refine os_y (y_fld F.fld69_1 rfl) ?_
  refine os_y (y_core F.sc66 rfl aFd rfl) ?_
  refine os_y (y_fld F.fld72_4 rfl) ?_
  refine os_y (y_load F.sc3 rfl (by rfl)) ?_
  refine os_nil ?_
  refine ow_ran rfl F.hb121 rfl (share_spec W a t x.root (big1 (big2 (m := find id) (by rw [e0] at hnb; exact hnb) h9))) aSp (fun v u ho => ?_) (fun e t ho => by (repeat (first | with_reducible refine kw_inBlock_panic ?_ | with_reducible refine kw_then_panic ?_)); (refine kw_said (sat_pack (N := [celC b0 a, celU b1 id, celB b2 only]) aSp) ?_; exact kw_errR (e0.trans ((andThen_ok h9).trans (andThen_err ho))) (fun _ _ h => h) aSp))
  try simp only [List.cons_append, List.nil_append]
  refine ow_nil ?_
  refine kw_code (fun _ _ h => h) ?_
  refine cw_seq ?_
  refine cw_region ?_
  refine ow_y (y_load F.sc26 rfl (by rfl)) ?_
  refine ow_y (y_load F.sc4 rfl (by rfl)) ?_
  refine ow_y (y_fld F.fld72_3 rfl) ?_
  refine ow_y (y_load F.sc3 rfl (by rfl)) ?_
  refine ow_y (y_fld F.fld72_4 rfl) ?_
  refine ow_y (y_load F.sc3 rfl (by rfl)) ?_
  refine ow_y (y_build (cs := entV { ent0 with parent := id, only := only, size := x.size, root := x.root }) F.pl72 rfl (by rfl)) ?_
  refine ow_storeAgg F.sz72 rfl rfl rfl (by simp [entV, Value.oneCell']) (by simp [entV, Value.cells]) (splice_all (by simp [entV, Value.cells])) ?_
  refine ow_nil ?_
  refine kw_code (fun _ _ h => h) ?_
  refine cw_said (sat_pack (N := [celC b0 a, celU b1 id, celB b2 only]) aSp) ?_
  exact cw_retRC (e0.trans ((andThen_ok h9).trans (by rw [andThen_ok ho]; rfl))) (fun _ _ h => h) (RV.agg F.ag72 rfl (by simp [Value.cells, entV]) (extract_all (by simp [Value.cells, entV])) RV.nil) rfl aSp
theorem ccopy_spec (W : World) (a : Ad) (s : St) (id : Int) (only : Bool) (hvl : s.vols.length ≤ 1000) (hnb : (ccopyA id only s).1 ≠ .big) : Does Tryz.prog 68 #[ptr a.core, .int .u32 id, .bool only] (RS W a s) (Ran fT (RS W a) pairV (ccopyA id only s)) := by
  have hi := info_spec W a s id
  cases hm : mget id s.vols with
  | none =>
    rw [hm] at hi
    rw [show ccopyA id only s = (.ok (0, 5), s) by unfold ccopyA; rw [hm]]
    refine does_enter Tryz.func68 rfl Tryz.ntmps68 rfl (fun R w0 => ?_)
    simp only [envOf, List.cons_append, List.nil_append]
    refine cw_seq ?_
    refine cw_region ?_
    refine (ow_box rfl (fun b3 => ?_))
    refine (ow_box rfl (fun b4 => ?_))
    refine (ow_box rfl (fun b5 => ?_))
    refine ow_y (y_assign rfl) ?_
    refine ow_y (y_assign rfl) ?_
    refine ow_nil ?_
    refine kw_code (fun _ _ h => h) ?_
    refine cw_seq ?_
    refine cw_seq ?_
    refine cw_region ?_
    refine ow_y (y_load F.sc29 rfl (by rfl)) ?_
    refine ow_y (y_load F.sc26 rfl (by rfl)) ?_
    refine ow_gives rfl F.hb53 rfl (hi) aSp ?_
    try simp only [List.cons_append, List.nil_append]
    refine ow_y (y_move rfl) ?_
    refine ow_y (y_ext rfl rfl) ?_
    refine ow_y (y_ext rfl rfl) ?_
    refine (ow_alloc F.z72 (fun b8 => ?_))
    refine ow_storeAgg F.sz72 rfl rfl rfl (by simp [entV, Value.oneCell']) (by simp [entV, Value.cells]) (splice_all (by simp [entV, Value.cells])) ?_
    refine ow_y (y_assign rfl) ?_
    refine ow_nil ?_
    refine kw_code (fun _ _ h => h) ?_
    refine cw_seq ?_
    refine cw_region ?_
    refine ow_y (y_move rfl) ?_
    refine ow_y (y_neq rfl rfl) ?_
    refine ow_nil ?_
    refine kw_code (fun _ _ h => h) ?_
    refine cw_true rfl rfl ?_
    refine cw_seq ?_
    refine cw_region ?_
    refine ow_y (y_move rfl) ?_
    refine ow_y (y_assign rfl) ?_
    refine ow_y (y_assign rfl) ?_
    refine ow_nil ?_
    refine kw_code (fun _ _ h => h) ?_
    exact cw_retR rfl (fun _ _ h => h) rfl rfl aSp
  | some x =>
    rw [hm] at hi
    have e0 : ccopyA id only s = cmoreA (copyM id only) s := by unfold ccopyA; rw [hm]
    rw [e0] at hnb ⊢
    refine does_enter Tryz.func68 rfl Tryz.ntmps68 rfl (fun R w0 => ?_)
    simp only [envOf, List.cons_append, List.nil_append]
    refine cw_seq ?_
    refine cw_region ?_
    refine (ow_box rfl (fun b3 => ?_))
    refine (ow_box rfl (fun b4 => ?_))
    refine (ow_box rfl (fun b5 => ?_))
    refine ow_y (y_assign rfl) ?_
    refine ow_y (y_assign rfl) ?_
    refine ow_nil ?_
    refine kw_code (fun _ _ h => h) ?_
    refine cw_seq ?_
    refine cw_seq ?_
    refine cw_region ?_
    refine ow_y (y_load F.sc29 rfl (by rfl)) ?_
    refine ow_y (y_load F.sc26 rfl (by rfl)) ?_
    refine ow_gives rfl F.hb53 rfl (hi) aSp ?_
    try simp only [List.cons_append, List.nil_append]
    refine ow_y (y_move rfl) ?_
    refine ow_y (y_ext rfl rfl) ?_
    refine ow_y (y_ext rfl rfl) ?_
    refine (ow_alloc F.z72 (fun b8 => ?_))
    refine ow_storeAgg F.sz72 rfl rfl rfl (by simp [entV, Value.oneCell']) (by simp [entV, Value.cells]) (splice_all (by simp [entV, Value.cells])) ?_
    refine ow_y (y_assign rfl) ?_
    refine ow_nil ?_
    refine kw_code (fun _ _ h => h) ?_
    refine cw_seq ?_
    refine cw_region ?_
    refine ow_y (y_move rfl) ?_
    refine ow_y (y_neq rfl rfl) ?_
    refine ow_nil ?_
    refine kw_code (fun _ _ h => h) ?_
    refine cw_false rfl rfl ?_
    refine cw_skip ?_
    refine kw_code (fun _ _ h => h) ?_
    refine cw_seq ?_
    refine cw_region ?_
    refine ow_y (y_load F.sc29 rfl (by rfl)) ?_
    refine ow_y (y_func rfl rfl rfl) ?_
    refine ow_said (sat_pack (N := [celC b3 a, celU b4 id, celB b5 only]) aSp) ?_
    refine ow_ran rfl F.hb24 rfl (cmore_spec W a (copyA0 a b3 b4 b5 id only) 120 [ptr b3, ptr b4, ptr b5] (copyM id only) s F.hb120 hvl (copy1_spec W a b3 b4 b5 id only s.bits) hnb) aSp (fun p t ho => ?_) (fun e t ho => by (repeat (first | with_reducible refine kw_inBlock_panic ?_ | with_reducible refine kw_then_panic ?_)); exact kw_errR (ho) (fun _ _ h => h) aSp)
    try simp only [List.cons_append, List.nil_append]
    refine ow_y (y_ext rfl rfl) ?_
    refine ow_y (y_ext rfl rfl) ?_
    refine ow_y (y_assign rfl) ?_
    refine ow_y (y_assign rfl) ?_
    refine ow_nil ?_
    refine kw_code (fun _ _ h => h) ?_
    exact cw_retR ho (fun _ _ h => h) rfl rfl aSp
theorem csnap_spec (W : World) (a : Ad) (s : St) (id : Int) (hvl : s.vols.length ≤ 1000) (hnb : (ccopyA id true s).1 ≠ .big) : Does Tryz.prog 20 #[ptr a.core, .int .u32 id] (RS W a s) (Ran fT (RS W a) pairV (ccopyA id true s)) := by
  refine does_enter Tryz.func20 rfl Tryz.ntmps20 rfl (fun R w0 => ?_)
  simp only [envOf, List.cons_append, List.nil_append]
  refine cw_seq ?_
  refine cw_region ?_
  refine ow_y (y_assign rfl) ?_
  refine ow_y (y_assign rfl) ?_
  refine ow_nil ?_
  refine kw_code (fun _ _ h => h) ?_
  refine cw_seq ?_
  refine cw_region ?_
  refine ow_y (y_move rfl) ?_
  refine ow_y (y_move rfl) ?_
  refine ow_ran rfl F.hb68 rfl (ccopy_spec W a s id true hvl hnb) aSp (fun p t ho => ?_) (fun e t ho => by (repeat (first | with_reducible refine kw_inBlock_panic ?_ | with_reducible refine kw_then_panic ?_)); exact kw_errR (ho) (fun _ _ h => h) aSp)
  try simp only [List.cons_append, List.nil_append]
  refine ow_y (y_ext rfl rfl) ?_
  refine ow_y (y_ext rfl rfl) ?_
  refine ow_y (y_assign rfl) ?_
  refine ow_y (y_assign rfl) ?_
  refine ow_nil ?_
  refine kw_code (fun _ _ h => h) ?_
  exact cw_retR ho (fun _ _ h => h) rfl rfl aSp
end Go.Proofs.YthlclfdnhnnebaaGreatDoor
end
section
set_option maxRecDepth 4000
set_option maxHeartbeats 4000000
namespace Go.Proofs.YthlclfdnhnnebaaGreatDoor
open Go.Sl Go.Sb
abbrev celS (b : Nat) (x : B) : Asrt := pts b (.cells #[strV x] 9 (0, 0))
theorem pb_find (id : Int) : PB (find id) := fun s => by unfold find; split <;> rfl
theorem pb_copen (id : Int) : PB (copen id) := pb_then (pb_find id) fun x => pb_if (pb_fail _) (pb_ret _)
theorem withinB_ok {x : Ent} {at_ n : Int} {s t : St} {u : Unit} (h : withinB x at_ n s = (.ok u, t)) : t = s ∧ 0 ≤ at_ ∧ 0 ≤ n ∧ at_ + n ≤ x.size ∧ x.size ≤ 5000 := by
  unfold withinB at h
  split at h
  · cases h
  · unfold within at h
    split at h
    · cases h
    · cases h; exact ⟨rfl, by omega, by omega, by omega, by omega⟩
abbrev writeA0 (a : Ad) (b0 b1 b2 b3 : Nat) (id at_ : Int) (data : B) : Asrt := star [celC b0 a, celU b1 id, celS b2 data, celI b3 at_]
theorem write1_spec (W : World) (hW : ShaW W) (a : Ad) (b0 b1 b2 b3 : Nat) (id at_ : Int) (data : B) (bits : Nat) (hbits : bits ≤ 256) (hdl : data.length ≤ 100000) :
    RunSpec W a (writeA0 a b0 b1 b2 b3 id at_ data) (fun _ : Unit => star []) 27 [ptr b0, ptr b1, ptr b2, ptr b3] bits (writeM id at_ data) := by
  intro s hsb hnb
  have e0 : writeM id at_ data s = andThen (copen id) (fun x => if data.length % 64 ≠ 0 then fail 4 else andThen (withinB x at_ (data.length / 64 : Nat)) fun _ => andThen (patchD x at_.toNat data) cput) s := rfl
  simp only [List.cons_append, List.nil_append]
  refine does_enter Tryz.func27 rfl Tryz.ntmps27 rfl (fun R w0 => ?_)
  simp only [envOf, List.cons_append, List.nil_append]
  refine cw_star (show Fnd _ (star [celC b0 a, celU b1 id, celS b2 data, celI b3 at_]) _ from aFd) ?_
  simp only [List.cons_append, List.nil_append]
  refine cw_seq ?_
  refine cw_region ?_
  refine ow_y (y_load F.sc29 rfl (by rfl)) ?_
  refine ow_y (y_load F.sc26 rfl (by rfl)) ?_
  refine ow_ran rfl F.hb28 rfl (copen_spec W a s id) aSp (fun x t ho => ?_) (fun e t ho => by (repeat (first | with_reducible refine kw_inBlock_panic ?_ | with_reducible refine kw_then_panic ?_)); (refine kw_said (fun w h => sat_nostar h) ?_; exact kw_errR (alsoC_err' (e0.trans (andThen_err ho))) (fun _ _ h => h) aSp))
  try simp only [List.cons_append, List.nil_append]
  have hpb := pb_copen id s
  rw [ho] at hpb
  have hpb : t.bits = s.bits := hpb
  have e1 := e0.trans (andThen_ok ho)
  clear ho
  refine (ow_alloc F.z72 (fun b4 => ?_))
  refine ow_storeAgg F.sz72 rfl rfl rfl (by simp [entV, Value.oneCell']) (by simp [entV, Value.cells]) (splice_all (by simp [entV, Value.cells])) ?_
  refine ow_nil ?_
  refine kw_code (fun _ _ h => h) ?_
  refine cw_seq ?_
  refine cw_seq ?_
  refine cw_region ?_
  refine ow_y (y_load F.sc9 rfl (by rfl)) ?_
  refine ow_y (y_len_str F.st9 rfl) ?_
  rw [bs_size]
  refine ow_y (y_remI rfl rfl (by omega)) ?_
  refine ow_y (y_neq rfl rfl) ?_
  refine ow_nil ?_
  refine kw_code (fun _ _ h => h) ?_
  refine cw_if rfl (fun hb11 => ?_) (fun hb11 => ?_)
  · skip
    have hm : data.length % 64 ≠ 0 := by have h := hb11; simp only [bne_iff_ne, ne_eq] at h; omega
    refine cw_said (fun w h => sat_nostar h) ?_
    refine cw_region ?_
    refine ow_fails rfl F.hb29 rfl (fail_spec 4) aSp ?_
    simp only [List.cons_append, List.nil_append]
    repeat (first | with_reducible refine kw_inBlock_panic ?_ | with_reducible refine kw_then_panic ?_)
    exact kw_errR (alsoC_err' (e1.trans (by rw [if_pos hm]; rfl))) (fun _ _ h => h) aSp
  · skip
    have hm : ¬ data.length % 64 ≠ 0 := by have h := hb11; simp only [bne_eq_false_iff_eq] at h; omega
    rw [if_neg hm] at e1
    refine cw_skip ?_
    refine kw_code (fun _ _ h => h) ?_
    refine cw_seq ?_
    refine cw_region ?_
    refine ow_y (y_loadAgg F.ag72 rfl (by simp [entV]) (extract_all (by simp [entV]))) ?_
    refine ow_y (y_load F.sc3 rfl (by rfl)) ?_
    refine ow_y (y_load F.sc9 rfl (by rfl)) ?_
    refine ow_y (y_len_str F.st9 rfl) ?_
    rw [bs_size]
    refine ow_y (y_quoI rfl rfl (by omega)) ?_
    rw [show ((data.length : Nat) : Int) / 64 = ((data.length / 64 : Nat) : Int) by omega]
    refine ow_ran rfl F.hb30 rfl (within_spec W a t x at_ ((data.length / 64 : Nat) : Int) (by rw [e1] at hnb; exact big1 hnb)) aSp (fun v t2 ho => ?_) (fun e t ho => by (repeat (first | with_reducible refine kw_inBlock_panic ?_ | with_reducible refine kw_then_panic ?_)); (refine kw_said (fun w h => sat_nostar h) ?_; exact kw_errR (alsoC_err' (e1.trans (andThen_err ho))) (fun _ _ h => h) aSp))
    try simp only [List.cons_append, List.nil_append]
    refine ow_nil ?_
    obtain ⟨h1, h2, h3, h4, h5⟩ := withinB_ok ho
    rw [h1] at ho ⊢
    have e2 := e1.trans (andThen_ok ho)
    clear ho
    obtain ⟨k, rfl⟩ : ∃ k : Nat, at_ = k := ⟨at_.toNat, by omega⟩
    rw [Int.toNat_natCast] at e2
    refine kw_code (fun _ _ h => h) ?_
    refine cw_seq ?_
    refine cw_region ?_
    refine ow_y (y_load F.sc29 rfl (by rfl)) ?_
    refine ow_y (y_load F.sc3 rfl (by rfl)) ?_
    refine ow_y (y_load F.sc9 rfl (by rfl)) ?_
    refine ow_ran rfl F.hb31 rfl (patch_spec W hW a t b4 x k data (by omega) (by omega) (by rw [e2] at hnb; exact big1 hnb)) aSp (fun v ⟨t3, ox⟩ ho => ?_) (fun e t ho => by (repeat (first | with_reducible refine kw_inBlock_panic ?_ | with_reducible refine kw_then_panic ?_)); (obtain ⟨t1, t2⟩ := t; obtain ⟨hx, hm⟩ := optR_err ho; obtain rfl : t2 = none := congrArg Prod.snd hx; have hm : _ = (Out.err e, t1) := hm; simp only [RSo, List.cons_append, List.nil_append]; have e4 : writeM id (k : Int) data s = (.err e, t1) := e2.trans (andThen_err hm); refine kw_said (fun w h => sat_nostar h) ?_; exact kw_errR (alsoC_err' e4) (fun _ _ h => h) aSp))
    try simp only [List.cons_append, List.nil_append]
    refine ow_nil ?_
    obtain ⟨y, hx, hm⟩ := optR_ok ho
    obtain rfl : ox = some y := congrArg Prod.snd hx
    have hm : _ = (Out.ok y, t3) := hm
    simp only [RSo, List.cons_append, List.nil_append]
    have e3 : writeM id (k : Int) data s = cput y t3 := e2.trans (andThen_ok hm)
    refine kw_code (fun _ _ h => h) ?_
    refine cw_region ?_
    refine ow_y (y_load F.sc29 rfl (by rfl)) ?_
    refine ow_y (y_loadAgg F.ag72 rfl (by simp [entV]) (extract_all (by simp [entV]))) ?_
    refine ow_ran rfl F.hb32 rfl (cput_spec W a t3 y (by rw [e3] at hnb; exact hnb)) aSp (fun v t4 ho => ?_) (fun e t ho => by (repeat (first | with_reducible refine kw_inBlock_panic ?_ | with_reducible refine kw_then_panic ?_)); (refine kw_said (fun w h => sat_nostar h) ?_; exact kw_errR (alsoC_err' (e3.trans ho)) (fun _ _ h => h) aSp))
    try simp only [List.cons_append, List.nil_append]
    refine ow_nil ?_
    refine kw_said (fun w h => sat_nostar h) ?_
    exact kw_finR (s := (t4, .done ())) (alsoC_ok' (e3.trans ho)) rfl rfl aSp
theorem cwrite_spec (W : World) (hW : ShaW W) (a : Ad) (s : St) (id at_ : Int) (data : B) (hbits : s.bits ≤ 256) (hdl : data.length ≤ 100000) (hvl : s.vols.length ≤ 1000) (hnb : (cwriteA id at_ data s).1 ≠ .big) :
    Does Tryz.prog 10 #[ptr a.core, .int .u32 id, .int .i64 at_, strV data] (RS W a s) (Ran fT (RS W a) intV (cwriteA id at_ data s)) := by
  have e0 : cwriteA id at_ data s = andThen (tryA (roomC 0 (writeM id at_ data))) (fun r => ret r.1) s := rfl
  refine does_enter Tryz.func10 rfl Tryz.ntmps10 rfl (fun R w0 => ?_)
  simp only [envOf, List.cons_append, List.nil_append]
  refine cw_seq ?_
  refine cw_region ?_
  refine (ow_box rfl (fun b4 => ?_))
  refine (ow_box rfl (fun b5 => ?_))
  refine (ow_box rfl (fun b6 => ?_))
  refine (ow_box rfl (fun b7 => ?_))
  refine ow_y (y_assign rfl) ?_
  refine ow_nil ?_
  refine kw_code (fun _ _ h => h) ?_
  refine cw_seq ?_
  refine cw_region ?_
  refine ow_y (y_load F.sc29 rfl (by rfl)) ?_
  refine ow_y (y_func rfl rfl rfl) ?_
  refine ow_said (sat_pack (N := [celC b4 a, celU b5 id, celS b7 data, celI b6 at_]) aSp) ?_
  refine ow_ran rfl F.hb26 rfl (ctry_spec W a (writeA0 a b4 b5 b7 b6 id at_ data) (fun _ : Unit => star []) 0 27 [ptr b4, ptr b5, ptr b7, ptr b6] (writeM id at_ data) s F.hb27 (by omega) hvl (write1_spec W hW a b4 b5 b7 b6 id at_ data s.bits hbits hdl) (by rw [e0] at hnb; exact big1 hnb)) aSp (fun e ⟨t, oc⟩ ho => ?_) (fun e t ho => by (repeat (first | with_reducible refine kw_inBlock_panic ?_ | with_reducible refine kw_then_panic ?_)); (exact (tryC_noerr ho).elim))
  try simp only [List.cons_append, List.nil_append]
  refine ow_y (y_assign rfl) ?_
  refine ow_nil ?_
  refine kw_code (fun _ _ h => h) ?_
  exact cw_retR (e0.trans (andThen_ok (tryA_ok ho))) (fun _ _ h => h) rfl rfl aSp
end Go.Proofs.YthlclfdnhnnebaaGreatDoor
end
